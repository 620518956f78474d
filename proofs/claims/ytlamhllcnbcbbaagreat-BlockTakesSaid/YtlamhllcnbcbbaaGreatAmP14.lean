import Derived.Test.YtlamhllcnbcbbaaGreatAmP13w
section
/- The document's Takes of packed words, of plain numbers, of runs and of frames. -/
namespace Go.AM.Pure
open Go.AM
theorem Zuf1 (s:ByteArray) {k w:Nat} (hw:w≤64) (hk:k≤65536) (hfit:(k+1)*w≤8*s.size) (hs:s.size≤1000000):Zhe s (k:Int) (w:Int)=some (wordS s k w):=by
 have hb:k*w≤65536*64:=Nat.mul_le_mul hk hw
 have e:(k:Int)*(w:Int)=((k*w:Nat):Int):=by simp
 rw [Nat.add_mul] at hfit
 have main:∀ (d i n:Nat),d=w-i→i≤w→d<n→Zhe.l0 n s (k:Int) (w:Int) (IntKind.wrap .i64 (numOf ((List.range i).map fun j=>sb s (k*w+j)))) (i:Int)=some (wordS s k w):=by
  intro d
  induction d with
  | zero=>
   intro i n hd hi hn
   obtain ⟨n,rfl⟩:∃ j,n=j+1:=⟨n-1,by omega⟩
   have:i=w:=by omega
   subst this
   show Zhe.S0 _ _ _ _ _ _=_
   unfold Zhe.S0
   rw [lt_f (by omega),cond_false]
   rfl
  | succ d ih=>
   intro i n hd hi hn
   obtain ⟨n,rfl⟩:∃ j,n=j+1:=⟨n-1,by omega⟩
   have hlt:i<w:=by omega
   have hnb:=Zye ((List.range i).map fun j=>sb s (k*w+j))
   rw [List.length_map,List.length_range] at hnb
   have hp:(2:Int) ^ i≤2 ^ 63:=by exact_mod_cast Nat.pow_le_pow_right (n:=2) (by omega) (show i≤63 by omega)
   have hwr:IntKind.wrap .i64 (numOf ((List.range i).map fun j=>sb s (k*w+j)))=numOf ((List.range i).map fun j=>sb s (k*w+j)):=Zde (by omega)
   have hs1:=ih (i+1) n (by omega) (by omega) (by omega)
   rw [List.range_succ,List.map_append,List.map_singleton,Zao,List.length_map,List.length_range] at hs1
   show Zhe.S0 (Zhe.l0 n) _ _ _ _ _=_
   unfold Zhe.S0
   have hby:=Zee s (((k*w+i) / 8:Nat):Int)
   rw [lt_t (by omega),cond_true,Zek (by rw [e];omega),e,Zn (by omega),show ((k*w:Nat):Int)+(i:Int)=((k*w+i:Nat):Int) by omega,quo8 _ (by omega),rem8,Zma,Zu (by omega),cond_true,le_t (by omega),cond_true,Zde (by omega),ofBit _ _ (by omega),le_t (by omega),cond_true,Zn (by omega),hwr,Zoq1 (by omega) hnb.1 hnb.2]
   show (bif sb s (k*w+i) then _ else _)=_
   cases hbit:sb s (k*w+i) with
   | true=>rw [hbit,if_pos rfl] at hs1;exact hs1
   | false=>rw [hbit,if_neg (by decide),Int.add_zero,hwr] at hs1;exact hs1
 exact main w 0 fu (by omega) (by omega) (by unfold fu;omega)
abbrev Zah (s:ByteArray) (n w:Nat):List Int:=(List.range n).map fun k=>wordS s k w
theorem Zqj2 (s:ByteArray) (k:Nat) {w:Nat} (hw:w≤64):wordS s k w % 18446744073709551616<2 ^ w:=by
 unfold wordS
 have hnb:=Zye ((List.range w).map fun i=>sb s (k*w+i))
 rw [List.length_map,List.length_range] at hnb
 have hp:(2:Int) ^ w≤2 ^ 64:=by exact_mod_cast Nat.pow_le_pow_right (n:=2) (by omega) hw
 rw [← pow64] at hp
 have:∀ x:Int,IntKind.wrap .i64 x % 18446744073709551616=x % 18446744073709551616:=fun x=>by rw [Zph];split <;> omega
 rw [this,Int.emod_eq_of_lt hnb.1 (by omega)]
 exact hnb.2
theorem Zpz2 {l:List Int} (hl:l.length≤65536) {w:Nat} (h:∀ x∈l,x % 18446744073709551616<2 ^ w):widN l≤w:=by
 obtain ⟨_,_,h3⟩:=Zte l hl
 rcases h3.2 with h0 | ⟨x,hx,hle⟩
 ·omega
 ·have:=h x hx
  have h4:(2:Int) ^ (widN l-1)<2 ^ w:=by omega
  have:=Zzn h4
  omega
theorem Zpd1 (s:ByteArray) (k:Nat) {w i:Nat} (hw:w≤64) (hi:i<w):bit (wordS s k w) i=sb s (k*w+i):=by
 unfold wordS
 rw [Zqr _ (by omega),Zdz,List.getD_eq_getElem?_getD,List.getElem?_map,List.getElem?_range hi]
 rfl
theorem Zwo1 (s:ByteArray) {n w:Nat} (hw:w≤64):strm (Zah s n w) w=(List.range (n*w)).map (sb s):=by
 apply List.ext_getElem
 ·rw [Zwk,List.length_map,List.length_range,List.length_map,List.length_range]
 ·intro p h1 h2
  rw [List.length_map,List.length_range] at h2
  have hw0:0<w:=by
   rcases Nat.eq_zero_or_pos w with h | h
   ·subst h;omega
   ·exact h
  have hk:p / w<n:=(Nat.div_lt_iff_lt_mul hw0).2 h2
  have hi:p % w<w:=Nat.mod_lt _ hw0
  have hp:p / w*w+p % w=p:=by rw [Nat.mul_comm];exact Nat.div_add_mod p w
  have hg:=Ze7 (w:=w) (Zah s n w) (p / w) (p % w) (by rw [List.length_map,List.length_range];exact hk) hi
  rw [hp,List.getElem?_eq_getElem h1,List.getElem_map,List.getElem_range,Zpd1 s _ hw hi,hp] at hg
  rw [List.getElem_map,List.getElem_range]
  exact Option.some.inj hg
theorem Zs5 (s:ByteArray) {n w j:Nat} (hw:w≤64) (hj:j<(n*w+7) / 8):(packB (Zah s n w) w)[j]? = some (byteAt s (j:Int) % 2 ^ (min 8 (n*w-8*j))):=by
 unfold packB
 rw [List.length_map,List.length_range,Zhn _ _ _ hj,Zwo1 s hw,← Znk]
 congr 2
 apply List.ext_getElem
 ·rw [List.length_take,List.length_drop,List.length_map,List.length_range,List.length_map,List.length_range]
 ·intro i h1 h2
  rw [List.length_map,List.length_range] at h2
  rw [List.getElem_take,List.getElem_drop,List.getElem_map,List.getElem_range,List.getElem_map,List.getElem_range]
  unfold sb
  rw [show (8*j+i) / 8=j by omega,show (8*j+i) % 8=i by omega]
theorem Zaq1 (s:ByteArray) {n w:Nat} (hw:w≤64) (hs:s.size=(n*w+7) / 8):ofBytes (packB (Zah s n w) w)=s↔(n*w % 8=0∨byteAt s ((s.size-1:Nat):Int)<2 ^ (n*w % 8)):=by
 have hpl:(packB (Zah s n w) w).length=s.size:=by rw [Zpe,List.length_map,List.length_range,hs]
 constructor
 ·intro h
  rcases Nat.eq_zero_or_pos (n*w % 8) with h0 | h0
  ·exact .inl h0
  ·right
   have h1:=Zbf s (s.size-1) (by omega)
   have h2:=Zs5 s (n:=n) (j:=s.size-1) hw (by omega)
   rw [← h,Zkp1,h] at h1
   rw [h1,show min 8 (n*w-8*(s.size-1))=n*w % 8 by omega] at h2
   have h3:=Int.emod_lt_of_pos (byteAt s ((s.size-1:Nat):Int)) (Zld (n*w % 8))
   rw [← Option.some.inj h2] at h3
   exact h3
 ·intro h
  rw [← Zrd s]
  congr 1
  conv=>lhs;rw [Zrd s]
  apply List.ext_getElem?
  intro j
  rcases Nat.lt_or_ge j s.size with hj | hj
  ·rw [Zs5 s hw (by omega),Zbf s j hj]
   congr 1
   have hb:=Zee s (j:Int)
   refine Int.emod_eq_of_lt hb.1 ?_
   rcases Nat.lt_or_ge (8*j+7) (n*w) with hf | hf
   ·rw [show min 8 (n*w-8*j)=8 by omega]
    exact hb.2
   ·have:j=s.size-1:=by omega
    rw [show min 8 (n*w-8*j)=n*w % 8 by omega,this]
    rcases h with h | h
    ·omega
    ·exact h
  ·rw [List.getElem?_eq_none (by omega),List.getElem?_eq_none (by rw [Zha];omega)]
theorem Zrh (s:ByteArray) {n:Int} (w:Int) (h0:0≤n) (hn:n≤65536) (hs:s.size≤1000000):Zeb s n w=Zab s n w:=by
 obtain ⟨n,rfl⟩:∃ k:Nat,n=k:=⟨n.toNat,by omega⟩
 show Zeb.S (Zeb.l0 (Zeb.t1 fu) fu) s _ w=_
 unfold Zeb.S
 by_cases hw:0≤w∧w≤64
 ·obtain ⟨w,rfl⟩:∃ v:Nat,w=v:=⟨w.toNat,by omega⟩
  have hw':w≤64:=by omega
  have hb:n*w≤65536*64:=Nat.mul_le_mul (by omega) hw'
  rw [Zor s hw' (by omega),lt_f (by omega),cond_false,lt_f (by omega),cond_false,lt_f (by omega),cond_false,lt_f (by omega),cond_false,Zmt _ _ (by omega) hw',Zma]
  by_cases hsz:s.size=(n*w+7) / 8
  ·rw [ne_f (by omega),cond_false,if_pos hsz]
   have main:∀ (d i m:Nat),d=n-i→i≤n→d<m→Zeb.l0 (Zeb.t1 fu) m s (n:Int) (w:Int) (Zah s i w) (i:Int)=Zeb.S1 s (w:Int) (Zah s n w):=by
    intro d
    induction d with
    | zero=>
     intro i m hd hi hm
     obtain ⟨m,rfl⟩:∃ j,m=j+1:=⟨m-1,by omega⟩
     have:i=n:=by omega
     subst this
     show Zeb.S0 Zeb.S1 _ _ _ _ _ _=_
     unfold Zeb.S0
     rw [lt_f (by omega),cond_false]
    | succ d ih=>
     intro i m hd hi hm
     obtain ⟨m,rfl⟩:∃ j,m=j+1:=⟨m-1,by omega⟩
     show Zeb.S0 _ (Zeb.l0 (Zeb.t1 fu) m) _ _ _ _ _=_
     unfold Zeb.S0
     have hf:(i+1)*w≤n*w:=Nat.mul_le_mul_right _ (by omega)
     rw [lt_t (by omega),cond_true,Zuf1 s hw' (by omega) (by omega) (by omega),Option.bind_some,Zna (by rw [List.length_map,List.length_range];omega),cond_true,Zn (by omega)]
     have:=ih (i+1) m (by omega) (by omega) (by omega)
     rw [show Zah s (i+1) w=Zah s i w++[wordS s i w] by unfold Zah;rw [List.range_succ,List.map_append];rfl] at this
     exact this
   have h1:=main n 0 fu (by omega) (by omega) (by unfold fu;omega)
   refine Eq.trans h1 ?_
   unfold Zeb.S1
   have hlen:(Zah s n w).length=n:=by rw [List.length_map,List.length_range]
   have hwd:widN (Zah s n w)≤w:=Zpz2 (by omega) fun x hx=>by
    obtain ⟨k,_,rfl⟩:=List.mem_map.1 hx
    exact Zqj2 s k hw'
   rw [Zrk _ hw' (by omega) hwd,Option.bind_some]
   dsimp only
   by_cases hp:n*w % 8=0∨byteAt s ((s.size-1:Nat):Int)<2 ^ (n*w % 8)
   ·rw [eqS_t ((Zaq1 s hw' hsz).2 hp),if_pos hp]
    rfl
   ·rw [eqS_f fun h=>hp ((Zaq1 s hw' hsz).1 h),if_neg hp]
    rfl
  ·rw [ne_t (by omega),cond_true,if_neg hsz]
 ·show _=Zab.S (Zab.t0 fu) s _ w
  unfold Zab.S
  by_cases hw0:w<0
  ·rw [lt_t hw0,cond_true,cond_true]
  ·rw [lt_f (by omega),cond_false,cond_false,lt_t (by omega),cond_true,cond_true]
theorem Zjy {o0:ByteArray→Int→List Int→Int→Option (List Int×Int)} {s:ByteArray} {n:Int} {l:List Int} {i:Nat} (hi:8*i+8≤s.size) (hs:s.size≤1000000) (hl:l.length≤100000):∀ (d j m:Nat) (x:Int),j+d=8→d<m→in64 x→(∀ p,p<64→bit x p=(decide (p<8*j) && sb s (64*i+8*(8-j)+p)))→
  Zra.l1 o0 m s n l (i:Int) x (7-(j:Int))=o0 s n (l++[wordS s i 64]) ((i:Int)+1)
 | 0,j,m,x,h,hm,hx,hb=>by
  obtain ⟨m,rfl⟩:∃ k,m=k+1:=⟨m-1,by omega⟩
  have:j=8:=by omega
  subst this
  show Zra.S1 _ _ _ _ _ _ _ _=_
  unfold Zra.S1
  have e:x=wordS s i 64:=by
   have h1:x % 18446744073709551616=wordS s i 64 % 18446744073709551616:=Zej fun p hp=>by
    rw [hb p hp,Zpd1 s i (by omega) hp,decide_eq_true (by omega),Bool.true_and,show 64*i+8*(8-8)+p=i*64+p by omega]
   have h2:=Zyi x
   rw [h1,Zyi,Zxg hx] at h2
   rw [← h2]
   unfold wordS
   rw [Zxg (Zef _)]
  rw [le_f (by omega),cond_false,Zna (by omega),cond_true,Zn (by omega),e]
 | d+1,j,m,x,h,hm,hx,hb=>by
  obtain ⟨m,rfl⟩:∃ k,m=k+1:=⟨m-1,by omega⟩
  show Zra.S1 o0 (Zra.l1 o0 m) _ _ _ _ _ _=_
  unfold Zra.S1
  have hby:=Zee s ((8*i+(7-j):Nat):Int)
  rw [le_t (by omega),cond_true,Zek (by omega),Zn (by omega),show 8*(i:Int)+(7-(j:Int))=((8*i+(7-j):Nat):Int) by omega,Zu (by rw [Zma];omega),cond_true,Zde (by omega),Zqb (by omega),show 7-(j:Int)-1=7-((j+1:Nat):Int) by omega]
  refine Zjy hi hs hl d (j+1) m _ (by omega) (by omega) (Zef _) fun p hp=>?_
  have hsh:shlI .i64 x 8=IntKind.wrap .i64 (x*2 ^ 8):=rfl
  rw [Zoh1 _ _ hp,hsh,Zqr _ hp,Zf4]
  have hbit:bit (byteAt s ((8*i+(7-j):Nat):Int)) p=(decide (p<8) && bit (byteAt s ((8*i+(7-j):Nat):Int)) p):=by
   have:=Znh1 (byteAt s ((8*i+(7-j):Nat):Int)) 8 p hby.1
   rw [show (2:Int) ^ 8=256 from rfl,Int.emod_eq_of_lt hby.1 hby.2] at this
   exact this
  rcases Nat.lt_or_ge p 8 with h8 | h8
  ·rw [decide_eq_false (by omega),Bool.false_and,Bool.false_or,decide_eq_true (by omega),Bool.true_and]
   unfold sb
   rw [show (64*i+8*(8-(j+1))+p) / 8=8*i+(7-j) by omega,show (64*i+8*(8-(j+1))+p) % 8=p by omega]
  ·rw [hbit,decide_eq_false (show ¬ p<8 by omega),Bool.false_and,Bool.or_false,decide_eq_true h8,Bool.true_and,hb _ (by omega),show 64*i+8*(8-j)+(p-8)=64*i+8*(8-(j+1))+p by omega]
   congr 1
   by_cases hq:p<8*(j+1)
   ·rw [decide_eq_true hq,decide_eq_true (by omega)]
   ·rw [decide_eq_false hq,decide_eq_false (by omega)]
theorem Zo5 (s:ByteArray) (n:Int) (hs:s.size≤65536):Zra s n=some (if 0≤n∧(s.size:Int)=8*n then ((List.range n.toNat).map fun k=>wordS s k 64,0) else ([],20)):=by
 show Zra.S (Zra.l0 fu) s n=_
 unfold Zra.S
 by_cases hn:0≤n∧(s.size:Int)=8*n
 ·rw [if_pos hn]
  obtain ⟨k,rfl⟩:∃ k:Nat,n=k:=⟨n.toNat,by omega⟩
  rw [lt_f (by omega),cond_false,Zma,lt_f (by omega),cond_false,Zek (by omega),ne_f (by omega),cond_false,Int.toNat_natCast]
  have main:∀ (d i m:Nat),d=k-i→i≤k→20<m→Zra.l0 (m+d) s (k:Int) (Zah s i 64) (i:Int)=some (Zah s k 64,0):=by
   intro d
   induction d with
   | zero=>
    intro i m hd hi hm
    obtain ⟨m,rfl⟩:∃ j,m=j+1:=⟨m-1,by omega⟩
    have:i=k:=by omega
    subst this
    show Zra.S0 _ _ _ _ _=_
    unfold Zra.S0
    rw [lt_f (by omega),cond_false]
   | succ d ih=>
    intro i m hd hi hm
    show Zra.S0 (Zra.l1 (Zra.l0 (m+d)) (m+d)) _ _ _ _=_
    unfold Zra.S0
    rw [lt_t (by omega),cond_true]
    have h1:=Zjy (o0:=Zra.l0 (m+d)) (s:=s) (n:=(k:Int)) (l:=Zah s i 64) (i:=i) (by omega) (by omega) (by rw [List.length_map,List.length_range];omega) 8 0 (m+d) 0 rfl (by omega) Zjp (fun p hp=>by rw [decide_eq_false (by omega),Bool.false_and];unfold bit;simp)
    rw [show (7:Int)-((0:Nat):Int)=7 from rfl] at h1
    rw [h1]
    have:=ih (i+1) m (by omega) (by omega) hm
    rw [show Zah s (i+1) 64=Zah s i 64++[wordS s i 64] by unfold Zah;rw [List.range_succ,List.map_append];rfl] at this
    exact this
  have:=main k 0 (fu-k) (by omega) (by omega) (by unfold fu;omega)
  rw [show fu-k+k=fu by unfold fu;omega] at this
  exact this
 ·rw [if_neg hn,Zma]
  by_cases h0:n<0
  ·rw [lt_t h0,cond_true]
  ·rw [lt_f (by omega),cond_false]
   by_cases h1:(s.size:Int)<n
   ·rw [lt_t h1,cond_true]
   ·rw [lt_f (by omega),cond_false,Zek (by omega),ne_t (by omega),cond_true]
theorem Zsz1 (o:List Run) (h:Qr o):Ret (Ztc o) fun b=>b=true↔okR 0 none o:=by
 have hol:=h.len'
 have hl:=h.1
 have main:∀ (d i n:Nat),d=o.length-i→i≤o.length→d<n→okR 0 none (o.take i)→Ret (Ztc.l0 n o ((flatR (o.take i)).length:Int) (i:Int)) fun b=>b=true↔okR 0 none o:=by
  intro d
  induction d with
  | zero=>
   intro i n hd hi hn hk
   obtain ⟨n,rfl⟩:∃ k,n=k+1:=⟨n-1,by omega⟩
   show Ret (Ztc.S0 _ _ _ _) _
   unfold Ztc.S0
   have:i=o.length:=by omega
   subst this
   rw [List.take_length] at hk
   rw [Zf]
   exact Zia (fun _=>by omega) fun _=>Zg ⟨fun _=>hk,fun _=>rfl⟩
  | succ d ih=>
   intro i n hd hi hn hk
   obtain ⟨n,rfl⟩:∃ k,n=k+1:=⟨n-1,by omega⟩
   have hlt:i<o.length:=by omega
   obtain ⟨k1,k2⟩:=h.2 i hlt
   have k3:=Zt6 hlt
   have k4:=Za8 o (i+1)
   show Ret (Ztc.S0 (Ztc.l0 n) _ _ _) _
   unfold Ztc.S0
   rw [Zf,Zy hlt,Zqb (by omega),Zn (a:=((flatR (o.take i)).length:Int)) (by omega),Zn (a:=(i:Int)) (by omega),Zqb (by omega)]
   have go:(0<i→o[i].1≠(o[i-1]'(by omega)).1)→Ret (Ztc.l0 n o (((flatR (o.take i)).length:Int)+o[i].2.2) ((i:Int)+1)) fun b=>b=true↔okR 0 none o:=fun hne=>by
    have:=ih (i+1) n (by omega) (by omega) (by omega) (Zxg1 hlt h hk hne)
    rw [k3] at this
    rw [show ((flatR (o.take i)).length:Int)+o[i].2.2=(((flatR (o.take i)).length+o[i].2.2.toNat:Nat):Int) by omega]
    exact this
   refine Zia (fun _=>Zya (by omega) (Zqc (fun e=>absurd k1 e) fun _=>Zya (by omega) (Zia (fun _=>by omega) fun _=>Zya (by omega) (Zia (fun _=>by omega) fun _=>Zia (fun h0=>Zya (by omega) (Zya (by omega) ?_)) fun h0=>Zya (by omega) (go fun h1=>by omega))))) fun _=>by omega
   have hlt1:i-1<o.length:=by omega
   rw [show (i:Int)-1=((i-1:Nat):Int) by omega,Zy hlt1]
   refine Znd (fun he=>Zg ⟨(fun h=>by cases h),fun hok=>?_⟩) fun hne=>Zya (by omega) (go fun _=>hne)
   have h3:=(Znp hok hlt).2.2.1
   rw [Zb8 (by omega) (by omega)] at h3
   exact absurd (by rw [he]) h3
 exact main o.length 0 fu (by omega) (by omega) (by unfold fu;omega) trivial
theorem Zkq (s:ByteArray) {n:Int} (h0:0≤n) (hn:n≤65536) (hs:s.size≤65536):Zmb s n=Zja s n:=by
 have fin:∀ o:List Run,Qr o→Zmb.S1 n o ((flatR o).length:Int)=Zja.S1 n o ((flatR o).length:Int):=fun o hq=>by
  obtain ⟨b,b1,b2⟩:=Zsz1 o hq
  obtain ⟨⟨c,c'⟩,c1,c2⟩:=Zly o hq
  unfold Zmb.S1 Zja.S1
  rw [b1,c1,Option.bind_some,Option.bind_some]
  dsimp only
  by_cases hok:okR 0 none o
  ·have:=Zzm o hok hq.1
   rw [c1] at this
   cases this
   rw [b2.2 hok]
   rfl
  ·have e1:b=false:=by
    cases b with
    | false=>rfl
    | true=>exact absurd (b2.1 rfl) hok
   have e2:c'=false:=by
    cases c' with
    | false=>rfl
    | true=>exact absurd (c2 rfl).1 hok
   rw [e1,e2]
   cases neI ((flatR o).length:Int) n <;> rfl
 have main:∀ (m k k2 a:Nat) (o:List Run),s.size-a≤m→a≤s.size→m<k→m<k2→Qr o→((flatR o).length:Int)≤n→Zmb.l0 (Zmb.t1 fu) k s n o (a:Int) ((flatR o).length:Int)=Zja.l0 (Zja.t1 fu) k2 (cutS s (a:Int) (s.size:Int)) n o ((flatR o).length:Int):=by
  intro m
  induction m with
  | zero=>
   intro k k2 a o hm ha hk hk2 hq hfn
   obtain ⟨k,rfl⟩:∃ j,k=j+1:=⟨k-1,by omega⟩
   obtain ⟨k2,rfl⟩:∃ j,k2=j+1:=⟨k2-1,by omega⟩
   show Zmb.S0 Zmb.S1 _ _ _ _ _ _=Zja.S0 Zja.S1 _ _ _ _ _
   unfold Zmb.S0 Zja.S0
   have hc:=Zyk s a s.size (Nat.le_refl _)
   rw [Zma,lt_f (by omega),cond_false,eqS_t (size0.2 (by omega)),Bool.not_true,cond_false,fin o hq]
  | succ m ih=>
   intro k k2 a o hm ha hk hk2 hq hfn
   have hc:=Zyk s a s.size (Nat.le_refl _)
   obtain ⟨k,rfl⟩:∃ j,k=j+1:=⟨k-1,by omega⟩
   obtain ⟨k2,rfl⟩:∃ j,k2=j+1:=⟨k2-1,by omega⟩
   show Zmb.S0 Zmb.S1 (Zmb.l0 (Zmb.t1 fu) k) _ _ _ _ _=Zja.S0 Zja.S1 (Zja.l0 (Zja.t1 fu) k2) _ _ _ _
   unfold Zmb.S0 Zja.S0
   have hol:=hq.len'
   have hq1:=hq.1
   by_cases hlt:a<s.size
   ·obtain ⟨r,r1,r2⟩:=Zug (cutS s (a:Int) (s.size:Int))
    rw [Zma,lt_t (by omega),cond_true,Zzb (by omega),cond_true,eqS_f (fun h=>by have:=size0.1 h;omega),Bool.not_false,cond_true,← Zng,r1,Option.bind_some,Option.bind_some]
    by_cases hr0:r.2.2=0
    ·obtain ⟨_,q1,q2,q3⟩:=r2.resolve_right fun h=>h.1 hr0
     obtain ⟨u,hu⟩:∃ u:Nat,r.2.1=u:=⟨r.2.1.toNat,by omega⟩
     have hcc:=Zxw s a u (s.size-a) (by omega)
     rw [show a+(s.size-a)=s.size by omega] at hcc
     have hcl:lenS (cutS s (a:Int) (s.size:Int))=((s.size-a:Nat):Int):=by rw [Zma,hc]
     rw [ne_f hr0,cond_false,cond_false,hu,Zn (by omega),hcl,Zzb (by omega),cond_true,Zzb (by omega),cond_true,show (a:Int)+(u:Int)=((a+u:Nat):Int) by omega,hcc,← Zng]
     obtain ⟨v,v1,v2⟩:=Zug (cutS s ((a+u:Nat):Int) (s.size:Int))
     rw [v1,Option.bind_some,Option.bind_some]
     by_cases hv0:v.2.2=0
     ·obtain ⟨_,w1,w2,w3⟩:=v2.resolve_right fun h=>h.1 hv0
      have hc2:=Zyk s (a+u) s.size (Nat.le_refl _)
      obtain ⟨z,hz⟩:∃ z:Nat,v.2.1=z:=⟨v.2.1.toNat,by omega⟩
      rw [ne_f hv0,cond_false,cond_false]
      by_cases hv1:v.1<1
      ·rw [lt_t hv1,cond_true,cond_true]
      ·rw [lt_f (by omega),cond_false,cond_false,Zqb (by omega)]
       by_cases hv2:n-((flatR o).length:Int)<v.1
       ·rw [lt_t hv2,cond_true,cond_true]
       ·have hcc2:=Zxw s a (u+z) (s.size-a) (by omega)
        rw [show a+(s.size-a)=s.size by omega] at hcc2
        rw [lt_f (by omega),cond_false,cond_false,Zna (by omega),cond_true,cond_true,hz,Zn (by omega),Zn (by omega),Zn (by omega),Zzb (by omega),cond_true,show ((a+u:Nat):Int)+(z:Int)=((a+(u+z):Nat):Int) by omega,show (u:Int)+(z:Int)=((u+z:Nat):Int) by omega,hcc2]
        have:=ih k k2 (a+(u+z)) (o++[(r.1,((flatR o).length:Int),v.1)]) (by omega) (by omega) (by omega) (by omega) (hq.snoc rfl (by show 1≤v.1;omega) (by show (flatR o).length+v.1.toNat≤_;omega)) (by rw [Zve,Zdf,List.length_append,List.length_replicate];show (((flatR o).length+v.1.toNat:Nat):Int)≤n;omega)
        rw [Zve,Zdf,List.length_append,List.length_replicate] at this
        rw [show ((flatR o).length:Int)+v.1=(((flatR o).length+v.1.toNat:Nat):Int) by omega]
        exact this
     ·rw [ne_t hv0,cond_true,cond_true]
    ·rw [ne_t hr0,cond_true,cond_true]
   ·rw [Zma,lt_f (by omega),cond_false,eqS_t (size0.2 (by omega)),Bool.not_true,cond_false,fin o hq]
 show Zmb.S (Zmb.l0 (Zmb.t1 fu) fu) s n=Zja.S (Zja.l0 (Zja.t1 fu) fu) s n
 unfold Zmb.S Zja.S
 rw [lt_f (by omega),cond_false,lt_f (by omega),cond_false,cond_false,cond_false]
 have:=main s.size fu fu 0 [] (by omega) (by omega) (by unfold fu;omega) (by unfold fu;omega) Qr.nil (by show (0:Int)≤n;exact h0)
 rw [show cutS s ((0:Nat):Int) (s.size:Int)=s by
  show cutS s (0:Int) (s.size:Int)=s
  rw [Zqp,List.take_of_length_le (by rw [Zha];exact Nat.le_refl _),Zrd]] at this
 exact this
theorem Zlq (o:List Run) (ho:okR 0 none o) (hl:(flatR o).length≤65536):Zgb o=some (flatR o,0):=by
 have hol:=Zbg o 0 none ho
 have inner:∀ (f:List Run→List Int→Int→Option (List Int×Int)) (i:Nat) (hi:i<o.length) (d j m:Nat),(d:Int)=o[i].2.2-j→(j:Int)≤o[i].2.2→d<m→Zgb.l1 f m o (flatR (o.take i)++List.replicate j o[i].1) (i:Int) (j:Int)=f o (flatR (o.take (i+1))) ((i:Int)+1):=by
  intro f i hi d
  obtain ⟨k1,k2,k3,k4,k5⟩:=Znp ho hi
  induction d with
  | zero=>
   intro j m hd hj hm
   obtain ⟨m,rfl⟩:∃ k,m=k+1:=⟨m-1,by omega⟩
   show Zgb.S1 _ _ _ _ _ _=_
   unfold Zgb.S1
   rw [Zf,Zu (by omega),cond_true,Zy hi,lt_f (by omega),cond_false,Zn (by omega),take_one hi,Zve,Zdf,show o[i].2.2.toNat=j by omega]
  | succ d ih=>
   intro j m hd hj hm
   obtain ⟨m,rfl⟩:∃ k,m=k+1:=⟨m-1,by omega⟩
   show Zgb.S1 f (Zgb.l1 f m) _ _ _ _=_
   unfold Zgb.S1
   rw [Zf,Zu (by omega),cond_true,Zy hi,lt_t (by omega),cond_true,cond_true,Zna (by rw [List.length_append,List.length_replicate];omega),cond_true,Zn (by omega),List.append_assoc,← List.replicate_succ']
   exact ih (j+1) m (by omega) (by omega) (by omega)
 have outer:∀ (d i m:Nat),d=o.length-i→i≤o.length→70000<m→Zgb.l0 (m+d) o (flatR (o.take i)) (i:Int)=some (flatR o,0):=by
  intro d
  induction d with
  | zero=>
   intro i m hd hi hm
   obtain ⟨m,rfl⟩:∃ j,m=j+1:=⟨m-1,by omega⟩
   have:i=o.length:=by omega
   subst this
   show Zgb.S0 _ _ _ _=_
   unfold Zgb.S0
   rw [Zf,lt_f (by omega),cond_false,List.take_length]
  | succ d ih=>
   intro i m hd hi hm
   have hlt:i<o.length:=by omega
   obtain ⟨k1,k2,k3,k4,k5⟩:=Znp ho hlt
   show Zgb.S0 (Zgb.l1 (Zgb.l0 (m+d)) (m+d)) _ _ _=_
   unfold Zgb.S0
   rw [Zf,lt_t (by omega),cond_true]
   have:=inner (Zgb.l0 (m+d)) i hlt o[i].2.2.toNat 0 (m+d) (by omega) (by omega) (by omega)
   rw [List.replicate_zero,List.append_nil] at this
   refine Eq.trans this ?_
   exact ih (i+1) m (by omega) (by omega) hm
 show Zgb.S (Zgb.l0 fu) o=_
 unfold Zgb.S
 have hm:Ztc o=some true:=Zd8 o ho hl o.length 0 fu (by omega) (by omega) (by unfold fu;omega)
 rw [hm,Option.bind_some,Bool.not_true,cond_false]
 have:=outer o.length 0 (fu-o.length) (by omega) (by omega) (by unfold fu;omega)
 rw [show fu-o.length+o.length=fu by unfold fu;omega] at this
 exact this
end Go.AM.Pure
end

section
/- The document's Takes of frames, of dictionaries and of texts. -/
namespace Go.AM.Pure
open Go.AM
theorem Znw (s:ByteArray) {l:List Int} (h:LI (l,0)):Zhb.S1 s l=Zo.S2 s l false:=by
 have hl:l.length≤65536:=h.1
 obtain ⟨w1,w2,_⟩:=Zte (Zuc l) (by rw [Zxh];omega)
 unfold Zhb.S1 Zo.S2
 rw [Zny l hl h.2,Zyn l hl w1 w2]
 rfl
theorem Zso1 (s:ByteArray) (m:Int) (w:List Int) (hw:w.length≤65536) (f:Nat):∀ (d i n n2:Nat) (o:List Int) (a:Int),d=w.length-i→i≤w.length→d<n→d<n2→(o++[a]).length+(w.length-i)≤65536→(∀ x∈o++[a],in64 x)→
  Zhb.l0 (Zhb.t1 fu) n s a (o++[a]) m w (i:Int)=Zo.l1 (Zo.t2 (f+1)) n2 s (o++[a]) m w (w.length:Int) (i:Int) false:=by
 intro d
 induction d with
 | zero=>
  intro i n n2 o a hd hi hn hn2 hl h64
  obtain ⟨n,rfl⟩:∃ k,n=k+1:=⟨n-1,by omega⟩
  obtain ⟨n2,rfl⟩:∃ k,n2=k+1:=⟨n2-1,by omega⟩
  show Zhb.S0 Zhb.S1 _ _ _ _ _ _ _=Zo.S1 Zo.S2 _ _ _ _ _ _ _ _
  unfold Zhb.S0 Zo.S1
  rw [Zf,lt_f (by omega),cond_false,cond_false,Znw s ⟨by show (o++[a]).length≤_;omega,h64⟩]
 | succ d ih=>
  intro i n n2 o a hd hi hn hn2 hl h64
  obtain ⟨n,rfl⟩:∃ k,n=k+1:=⟨n-1,by omega⟩
  obtain ⟨n2,rfl⟩:∃ k,n2=k+1:=⟨n2-1,by omega⟩
  have hlt:i<w.length:=by omega
  have hol:(o++[a]).length=o.length+1:=by rw [List.length_append];rfl
  show Zhb.S0 _ (Zhb.l0 (Zhb.t1 fu) n) _ _ _ _ _ _=Zo.S1 _ (Zo.l1 (Zo.t2 (f+1)) n2) _ _ _ _ _ _ _
  unfold Zhb.S0 Zo.S1
  have hlast:nth (o++[a]) (o.length:Int) 0=a:=by
   rw [Zy (by omega),List.getElem_append_right (Nat.le_refl _)]
   simp
  rw [Zf,Zf,lt_t (by omega),cond_true,cond_true,Zu (by omega),cond_true,cond_true,hol,Zqb (by omega),show ((o.length+1:Nat):Int)-1=(o.length:Int) by omega,Zu (by omega),cond_true,Zna (by omega),cond_true,cond_true,hlast,Zy hlt,Ztw,Ztw,Zn (a:=(i:Int)) (by omega)]
  exact ih (i+1) n n2 (o++[a]) _ (by omega) (by omega) (by omega) (by omega) (by rw [List.length_append,hol,List.length_singleton];omega) fun x hx=>by
   rcases List.mem_append.1 hx with hx | hx
   ·exact h64 x hx
   ·rw [List.mem_singleton.1 hx];exact Zef _
theorem Ztf1 (s:ByteArray) {n:Int} (h0:0≤n) (hn:n≤65536) (hs:s.size≤65536):Zhb s n=Zo s n:=by
 show Zhb.S (Zhb.l0 (Zhb.t1 fu) fu) (Zhb.t1 fu) s n=Zo.S (Zo.t0 (18446744073709551613+1+1+1)) s n
 unfold Zhb.S Zo.S
 rw [lt_f (by omega),cond_false,cond_false,lt_f (by omega),cond_false,cond_false]
 by_cases hz:n=0
 ·subst hz
  rw [eq_t rfl,cond_true,lt_f (by omega),cond_false]
  show _=Zo.S0 _ Zo.S2 s 0 [] s false
  unfold Zo.S0
  rw [lt_f (by omega),cond_false,← Znw s (LI.nil 0)]
  unfold Zhb.S1
  rw [show Zsb []=some (eB,0) by kernel_rfl,Option.bind_some]
  by_cases he:s=eB
  ·rw [eqS_t he,eqS_t he.symm]
  ·rw [eqS_f he,eqS_f fun h=>he h.symm]
 ·rw [eq_f hz,cond_false,lt_t (a:=0) (b:=n) (by omega),cond_true,← Zng]
  obtain ⟨r,r1,r2⟩:=Zug s
  obtain ⟨a1,a2,a3⟩:=r2.all
  have hf1:Zed s false=some (r.1,cutS s r.2.1 (lenS s),neI r.2.2 0):=by
   unfold Zed
   rw [r1,Option.bind_some,cond_false,Zzb (by rw [Zma];omega),cond_true]
  rw [r1,hf1,Option.bind_some,Option.bind_some]
  show _=Zo.S0 (Zo.l1 (Zo.t2 (18446744073709551613+1+1)) (18446744073709551613+1+1)) Zo.S2 s n [r.1] (cutS s r.2.1 (lenS s)) (neI r.2.2 0)
  unfold Zo.S0
  have h1:∀ x∈[r.1],in64 x:=fun x hx=>by rw [List.mem_singleton.1 hx];exact a1
  by_cases hr:r.2.2=0
  ·rw [ne_f hr,cond_false]
   by_cases hn1:1<n
   ·obtain ⟨u,hu⟩:∃ u:Nat,r.2.1=u:=⟨r.2.1.toNat,by omega⟩
    rw [hu] at a2 a3
    have hc:=Zyk s u s.size (Nat.le_refl _)
    rw [lt_t hn1,cond_true,cond_true,Zma,hu,Zzb (by omega),cond_true,← Zng]
    obtain ⟨q,q1,q2⟩:=Zug (cutS s (u:Int) (s.size:Int))
    obtain ⟨b1,b2,b3⟩:=q2.all
    have hf2:Zed (cutS s (u:Int) (s.size:Int)) false=some (q.1,cutS (cutS s (u:Int) (s.size:Int)) q.2.1 (lenS (cutS s (u:Int) (s.size:Int))),neI q.2.2 0):=by
     unfold Zed
     rw [q1,Option.bind_some,cond_false,Zzb (by rw [Zma];omega),cond_true]
    rw [q1,hf2,Option.bind_some,Option.bind_some]
    dsimp only
    by_cases hq:q.2.2=0
    ·obtain ⟨v,hv⟩:∃ v:Nat,q.2.1=v:=⟨q.2.1.toNat,by omega⟩
     rw [hv] at b2 b3
     have hcc:=Zxw s u v (s.size-u) (by omega)
     rw [show u+(s.size-u)=s.size by omega] at hcc
     have hc2:=Zyk s (u+v) s.size (Nat.le_refl _)
     rw [ne_f hq,cond_false,cond_false,hv,Zma,hc,hcc,Zn (by omega),show (u:Int)+(v:Int)=((u+v:Nat):Int) by omega]
     by_cases hle:s.size≤u+v
     ·rw [le_t (by omega),cond_true,eqS_t (size0.2 (by omega)),cond_true]
     ·have hcc2:=Zxw s (u+v) 1 (s.size-(u+v)) (by omega)
      rw [show u+v+(s.size-(u+v))=s.size by omega] at hcc2
      have hbyte:=Zh11 s (u+v) (by omega) 0
      rw [Nat.add_zero] at hbyte
      have hb:=Zee s ((u+v:Nat):Int)
      have hps:=Ztj (cutS s ((u+v+1:Nat):Int) (s.size:Int)) (n:=n-1) (byteAt s ((u+v:Nat):Int)) (by omega) (by omega)
      have hcle:=Zoh s ((u+v+1:Nat):Int) (s.size:Int)
      rw [le_f (by omega),cond_false,eqS_f (fun h=>by have:=size0.1 h;omega),cond_false,Zn (by omega),show ((u+v:Nat):Int)+1=((u+v+1:Nat):Int) by omega,Zzb (by omega),cond_true,Zu (by omega),cond_true,Zma,hc2,Zzb (by omega),cond_true,Zu (by omega),cond_true,show (1:Int)=((1:Nat):Int) from rfl,hcc2,show (0:Int)=((0:Nat):Int) from rfl,hbyte]
      simp only [show ((1:Nat):Int)=1 from rfl,show ((0:Nat):Int)=0 from rfl]
      rw [Zqb (by omega),Zgg,Zrh _ _ (by omega) (by omega) (by omega)]
      obtain ⟨z,z1,z2⟩:=hps
      rw [z1,Option.bind_some,Option.bind_some]
      by_cases hz0:z.2=0
      ·have hzl:=z2.len hz0
       rw [ne_f hz0,cond_false,cond_false,Zf]
       exact Zso1 s q.1 z.1 (by omega) _ z.1.length 0 _ _ [] r.1 (by omega) (by omega) (by unfold fu;omega) (by omega) (by show 1+_≤_;omega) h1
      ·rw [ne_t hz0,cond_true,cond_true]
    ·rw [ne_t hq,cond_true,cond_true]
   ·rw [lt_f (by omega),cond_false,cond_false]
    exact Znw s ⟨by show 1≤65536;omega,h1⟩
  ·rw [ne_t hr,cond_true]
   by_cases hn1:1<n
   ·have hsz:(cutS s r.2.1 (lenS s)).size≤s.size:=Zoh _ _ _
    obtain ⟨q,q1,q2⟩:=Zug (cutS s r.2.1 (lenS s))
    obtain ⟨b1,b2,b3⟩:=q2.all
    have hf2:Zed (cutS s r.2.1 (lenS s)) true=some (q.1,cutS (cutS s r.2.1 (lenS s)) q.2.1 (lenS (cutS s r.2.1 (lenS s))),true):=by
     unfold Zed
     rw [q1,Option.bind_some,cond_true,Zzb (by rw [Zma];omega),cond_true]
    rw [lt_t hn1,cond_true,hf2]
    rfl
   ·rw [lt_f (by omega),cond_false]
    unfold Zo.S2
    obtain ⟨z,z1,_⟩:=Zky [r.1] (by show 1≤65536;omega)
    rw [z1]
    rfl
theorem Zr6 (s:ByteArray) {K:Int} (h0:0≤K) (hK:K≤65536) (hs:s.size≤65536):Ret (Zrb s K) fun r=>r.2.2=true→(r.1.length:Int)=K∧Short r.1∧0≤r.2.1∧r.2.1≤(s.size:Int):=by
 have no:∀ {p:Prop},((([]:List ByteArray),(0:Int),false).2.2=true→p):=fun h=>by cases h
 have main:∀ (d i n:Nat) (o:List ByteArray) (a:Int),(d:Int)=K-i→(i:Int)≤K→d<n→o.length=i→Short o→0≤a→a≤s.size→Ret (Zrb.l0 n s K o a (i:Int)) fun r=>r.2.2=true→(r.1.length:Int)=K∧Short r.1∧0≤r.2.1∧r.2.1≤(s.size:Int):=by
  intro d
  induction d with
  | zero=>
   intro i n o a hd hi hn ho hsh ha ha2
   obtain ⟨n,rfl⟩:∃ k,n=k+1:=⟨n-1,by omega⟩
   show Ret (Zrb.S0 _ _ _ _ _ _) _
   unfold Zrb.S0
   exact Zia (fun _=>by omega) fun _=>Zg fun _=>⟨by show (o.length:Int)=K;omega,hsh,ha,ha2⟩
  | succ d ih=>
   intro i n o a hd hi hn ho hsh ha ha2
   obtain ⟨n,rfl⟩:∃ k,n=k+1:=⟨n-1,by omega⟩
   obtain ⟨b0,b1⟩:=Zee s a
   show Ret (Zrb.S0 (Zrb.l0 n) _ _ _ _ _) _
   unfold Zrb.S0
   rw [Zma,Zgg,Zqb (a:=(s.size:Int)) (by omega),Zqb (by omega),Zn (a:=a) (by omega),Zn (a:=a+1) (by omega),Zn (a:=(i:Int)) (by omega)]
   refine Zia (fun _=>Znj (fun _=>Zg no) fun _=>Zya (by omega) (Zia (fun _=>Zg no) fun c32=>Zya (by omega) (Zia (fun _=>Zg no) fun _=>Zya (by omega) (Zpd (by omega) (Zae (by omega) (ih (i+1) n _ _ (by omega) (by omega) (by omega) (by rw [List.length_append,ho];rfl) ?_ (by omega) (by omega))))))) fun _=>by omega
   intro t ht
   rcases List.mem_append.1 ht with ht | ht
   ·exact hsh t ht
   ·rw [List.mem_singleton.1 ht]
    obtain ⟨x,hx⟩:∃ x:Nat,a=x:=⟨a.toNat,by omega⟩
    obtain ⟨y,hy⟩:∃ y:Nat,byteAt s a=y:=⟨(byteAt s a).toNat,by omega⟩
    have:=Zyk s (x+1) (x+1+y) (by omega)
    rw [hy,hx,show ((x:Int)+1+(y:Int))=((x+1+y:Nat):Int) by omega,show (x:Int)+1=((x+1:Nat):Int) by omega,this]
    omega
 exact main K.toNat 0 fu [] 0 (by omega) (by omega) (by unfold fu;omega) rfl (fun t ht=>by cases ht) (Int.le_refl _) (by omega)
theorem Ziy {D:List ByteArray} (hD:D.length≤65536) (h32:Short D) {s:ByteArray} {tail:List Int} (hs:Zk s=Zla D++tail) (hsz:s.size<100000000):Zrb s (D.length:Int)=some (D,((Zla D).length:Int),true):=by
 have hsl:s.size=(Zla D).length+tail.length:=by rw [← Zha,hs,List.length_append]
 have main:∀ (d i n:Nat),d=D.length-i→i≤D.length→d<n→Zrb.l0 n s (D.length:Int) (D.take i) ((Zla (D.take i)).length:Int) (i:Int)=some (D,((Zla D).length:Int),true):=by
  intro d
  induction d with
  | zero=>
   intro i n hd hi hn
   have:i=D.length:=by omega
   subst this
   obtain ⟨n,rfl⟩:∃ k,n=k+1:=⟨n-1,by omega⟩
   show Zrb.S0 _ _ _ _ _ _=_
   unfold Zrb.S0
   rw [lt_f (by omega),cond_false,List.take_length]
  | succ d ih=>
   intro i n hd hi hn
   obtain ⟨n,rfl⟩:∃ k,n=k+1:=⟨n-1,by omega⟩
   have hlt:i<D.length:=by omega
   have hsplit:=Zpy hlt
   have hil:=congrArg List.length hsplit
   rw [List.length_append,List.length_append,Zhm] at hil
   have ht:=Za4 (s:=s) (t:=D[i]) (pre:=Zla (D.take i)) (rest:=Zla (D.drop (i+1))++tail) (by rw [hs,hsplit];simp)
   have hf:=ht.fit
   have h0:=ht.at0
   have hc:=ht.cut
   have h3:=h32 D[i] (List.getElem_mem hlt)
   have hnx:(Zla (D.take (i+1))).length=(Zla (D.take i)).length+(1+D[i].size):=by rw [take_one hlt,Zgm,List.length_append,Zhm]
   have hih:=ih (i+1) n (by omega) (by omega) (by omega)
   show Zrb.S0 (Zrb.l0 n) _ _ _ _ _=_
   unfold Zrb.S0
   generalize (Zla (D.take i)).length=p at *
   rw [hnx,take_one hlt,show p+(1+D[i].size)=p+1+D[i].size by omega] at hih
   rw [lt_t (by omega),cond_true,Zma,le_f (by omega),cond_false,Zu (by omega),cond_true,h0,lt_f (by omega),cond_false,Zde (by omega),Zqb (a:=(s.size:Int)) (by omega),Zqb (by omega),cond_true,lt_f (by omega),cond_false,cond_true,Zn (a:=(p:Int)) (b:=1) (by omega),show (p:Int)+1=((p+1:Nat):Int) by omega,Zn (by omega),show ((p+1:Nat):Int)+(D[i].size:Int)=((p+1+D[i].size:Nat):Int) by omega,
    Zzb (by omega),cond_true,Zna (by rw [List.length_take];omega),cond_true,hc,Zn (by omega)]
   exact hih
 exact main D.length 0 fu (by omega) (by omega) (by unfold fu;omega)
theorem Zx7 (s:ByteArray) (K:Int):Zke s K=Zrb s K:=by
 have h:∀ n,Zke.l0 n=Zrb.l0 n:=fun n=>by
  induction n with
  | zero=>rfl
  | succ n ih=>
   show Zke.S0 (Zke.l0 n)=Zrb.S0 (Zrb.l0 n)
   rw [ih]
   rfl
 show Zke.l0 fu s K [] 0 0=Zrb.l0 fu s K [] 0 0
 rw [h]
theorem bindc {α β:Type} {c:Bool} {a b:Option α} {f:α→Option β}:(bif c then a else b).bind f=bif c then a.bind f else b.bind f:=by cases c <;> rfl
theorem Zet (s:ByteArray) (K:Int):∀ (n:Nat) (o:List ByteArray) (a i:Int),Zka.l0 (Zka.t1 fu) n s K o a i=(Zrb.l0 n s K o a i).bind fun r=>bif r.2.2 then Zka.S1 s r.1 r.2.1 else some ([],20)
 | 0,_,_,_=>rfl
 | n+1,o,a,i=>by
  show Zka.S0 Zka.S1 (Zka.l0 (Zka.t1 fu) n) s K o a i=(Zrb.S0 (Zrb.l0 n) s K o a i).bind _
  unfold Zka.S0 Zrb.S0
  simp only [bindc,Option.bind_some,Option.bind_none,Zet s K n,cond_true,cond_false]
theorem Zpz1 (s:ByteArray) {n:Int} (hn:n≤65536) (hs:s.size≤65536):Ret (Zka s n) LT:=by
 show Ret (Zka.S (Zka.l0 (Zka.t1 fu) fu) s n) _
 unfold Zka.S
 refine Zia (fun _=>Zg (LT.nil _)) fun h0=>Zia (fun _=>Zg (LT.nil _)) fun _=>?_
 rw [Zet]
 refine Zta _ (Zr6 s h0 hn hs) fun r hr=>Zcf (fun hb=>?_) fun _=>Zg (LT.nil _)
 unfold Zka.S1
 exact Zqc (fun _=>Zg (LT.nil _)) fun _=>Zg (by have:=(hr hb).1;show r.1.length≤_;omega)
theorem Zqz1 (l:List ByteArray):l.length≤(Zla l).length:=by
 induction l with
 | nil=>exact Nat.zero_le _
 | cons t l ih=>
  rw [Zfm,List.length_append,Zhm,List.length_cons]
  omega
theorem Znu1 (l:List ByteArray) (hl:l.length≤65536) (hsh:Short l) {s:ByteArray} (hs:Zk s=Zla l):Zka s (l.length:Int)=some (l,0):=by
 have h1:=Zqz1 l
 have h2:=Zif l hsh
 have hsz:s.size=(Zla l).length:=by rw [← Zha,hs]
 have:=Ziy hl hsh (s:=s) (tail:=[]) (by rw [hs,List.append_nil]) (by omega)
 show Zka.S (Zka.l0 (Zka.t1 fu) fu) s _=_
 unfold Zka.S
 have h3:Zrb.l0 fu s (l.length:Int) [] 0 0=some (l,((Zla l).length:Int),true):=this
 rw [lt_f (by omega),cond_false,Zma,lt_f (by omega),cond_false,Zet,h3,Option.bind_some]
 dsimp only
 rw [cond_true]
 unfold Zka.S1
 rw [Zma,ne_f (by omega),cond_false]
theorem Zvg1 (s:ByteArray) (n:Int):Ret (Zxj s n) fun r=>r.2.2=true→1≤r.1∧r.1≤n∧0≤r.2.1∧r.2.1≤(s.size:Int):=by
 unfold Zxj
 refine Zta _ (Zuq s) fun r hr=>Znd (fun _=>Znj (fun h1=>Zg fun h=>⟨h1,of_decide_eq_true h,hr.all.2.1,hr.all.2.2⟩) fun _=>Zg fun h=>by cases h) fun _=>Zg fun h=>by cases h
theorem Zow (K:Int):Zom K=some (widN [subI .i64 K 1]:Int):=by
 unfold Zom
 rw [Zjj _ (by show 1≤65536;omega)]
 rfl
theorem Zrz1 (s:ByteArray) {l:List Int} (h:LI (l,0)):Ret (Zh.S4 s l) LI:=by
 unfold Zh.S4
 exact Zsd (Zfn l h.1 h.2) (Zue (Zrf (fun _=>Zg h) fun _=>Zg (LI.nil _)))
theorem Zou1 (s:ByteArray) (f:Nat) {D P:List Int} (hP:P.length≤65536) (hD:∀ x∈D,in64 x):∀ (d i n:Nat) (o:List Int),d=P.length-i→i≤P.length→d<n→o.length=i→(∀ x∈o,in64 x)→Ret (Zh.l3 (Zh.t4 (f+1)) n s D P o (i:Int)) LI:=by
 intro d
 induction d with
 | zero=>
  intro i n o hd hi hn ho h64
  obtain ⟨n,rfl⟩:∃ k,n=k+1:=⟨n-1,by omega⟩
  show Ret (Zh.S3 Zh.S4 _ _ _ _ _ _) _
  unfold Zh.S3
  rw [Zf]
  exact Zia (fun _=>by omega) fun _=>Zrz1 s ⟨by show o.length≤_;omega,h64⟩
 | succ d ih=>
  intro i n o hd hi hn ho h64
  obtain ⟨n,rfl⟩:∃ k,n=k+1:=⟨n-1,by omega⟩
  have hlt:i<P.length:=by omega
  show Ret (Zh.S3 _ (Zh.l3 (Zh.t4 (f+1)) n) _ _ _ _ _) _
  unfold Zh.S3
  rw [Zf,Zf,Zy hlt,Zn (by omega)]
  refine Zia (fun _=>Zya (by omega) (Zia (fun _=>Zg (LI.nil _)) fun c1=>Zya (by omega) (Znj (fun _=>Zg (LI.nil _)) fun c2=>Zya (by omega) (Zya (by omega) (Zae (by omega) (ih (i+1) n _ (by omega) (by omega) (by omega) (by rw [List.length_append,ho];rfl) fun x hx=>?_)))))) fun _=>by omega
  rcases List.mem_append.1 hx with hx | hx
  ·exact h64 x hx
  ·rw [List.mem_singleton.1 hx]
   obtain ⟨q,hq⟩:∃ q:Nat,P[i]=q:=⟨P[i].toNat,by omega⟩
   rw [hq,Zy (by omega)]
   exact hD _ (List.getElem_mem _)
theorem Zto1 (s:ByteArray) (f:Nat) {D P:List Int} (hP:P.length≤65536) (hPm:∀ x∈P,0≤x∧x<(D.length:Int)):∀ (d i n:Nat),d=P.length-i→i≤P.length→d<n→
  Zh.l3 (Zh.t4 (f+1)) n s D P ((P.take i).map fun x=>D.getD x.toNat 0) (i:Int)=Zh.S4 s (P.map fun x=>D.getD x.toNat 0):=by
 intro d
 induction d with
 | zero=>
  intro i n hd hi hn
  have:i=P.length:=by omega
  subst this
  obtain ⟨n,rfl⟩:∃ k,n=k+1:=⟨n-1,by omega⟩
  show Zh.S3 Zh.S4 _ _ _ _ _ _=_
  unfold Zh.S3
  rw [Zf,lt_f (by omega),cond_false,List.take_length]
 | succ d ih=>
  intro i n hd hi hn
  obtain ⟨n,rfl⟩:∃ k,n=k+1:=⟨n-1,by omega⟩
  have hlt:i<P.length:=by omega
  have hx:=hPm P[i] (List.getElem_mem hlt)
  show Zh.S3 _ (Zh.l3 (Zh.t4 (f+1)) n) _ _ _ _ _=_
  unfold Zh.S3
  rw [Zf,Zf,lt_t (by omega),cond_true,Zu (i:=(i:Int)) (by omega),cond_true,Zy hlt,lt_f hx.1,cond_false,cond_true,le_f hx.2,cond_false,cond_true,Zu hx,cond_true,Zna (by rw [List.length_map,List.length_take];omega),cond_true,Zn (by omega)]
  have:=ih (i+1) n (by omega) (by omega) (by omega)
  rw [take_one hlt,List.map_append] at this
  exact this
theorem Zpu1 (s:ByteArray) {n:Int} (hn:n≤65536) (hs:s.size≤65536):Ret (Zh s n) LI:=by
 have main:∀ (f:Nat) (K:Int),1≤K→K≤n→70000<f→∀ (d i m:Nat) (a:Int) (o:List Int),(d:Int)=K-i→(i:Int)≤K→d<m→0≤a→a≤s.size→o.length=i→(∀ x∈o,in64 x)→
   Ret (Zh.l1 (Zh.t2 (f+1+1)) m s n K a o (i:Int)) LI:=by
  intro f K hK1 hKn hf d
  induction d with
  | zero=>
   intro i m a o hd hi hm ha1 ha2 ho h64
   obtain ⟨m,rfl⟩:∃ k,m=k+1:=⟨m-1,by omega⟩
   show Ret (Zh.S1 (Zh.S2 (Zh.l3 (Zh.t4 (f+1)) (f+1))) _ _ _ _ _ _ _) _
   unfold Zh.S1
   refine Zia (fun _=>by omega) fun _=>?_
   unfold Zh.S2
   have hc:=Zii ha1 ha2
   rw [Zma]
   refine Zpd (by omega) (Zsd (Zow K) ?_)
   rw [Zrh _ _ (by omega) (by omega) (by omega)]
   refine Zta _ (Ztj _ _ (by omega) hn) fun z hz=>Zqc (fun _=>Zg (LI.nil _)) fun hz0=>?_
   have hzl:=hz.len hz0
   exact Zou1 s _ (by omega) h64 z.1.length 0 _ [] (by omega) (by omega) (by omega) rfl fun x hx=>by cases hx
  | succ d ih=>
   intro i m a o hd hi hm ha1 ha2 ho h64
   obtain ⟨m,rfl⟩:∃ k,m=k+1:=⟨m-1,by omega⟩
   show Ret (Zh.S1 _ (Zh.l1 (Zh.t2 (f+1+1)) m) _ _ _ _ _ _) _
   unfold Zh.S1
   have hc:=Zii ha1 ha2
   rw [Zma]
   refine Zia (fun _=>Zpd (by omega) (Zta _ (Zuq _) fun r hr=>Zqc (fun _=>Zg (LI.nil _)) fun _=>Zae (by omega) ?_)) fun _=>by omega
   obtain ⟨r1,r2,r3⟩:=hr.all
   rw [Zn (by omega),Zn (by omega)]
   refine ih (i+1) m (a+r.2.1) (o++[r.1]) (by omega) (by omega) (by omega) (by omega) (by omega) (by rw [List.length_append,ho];rfl) fun x hx=>?_
   rcases List.mem_append.1 hx with hx | hx
   ·exact h64 x hx
   ·rw [List.mem_singleton.1 hx];exact r1
 have go:Ret (Zh.S0 (Zh.l1 (Zh.t2 (18446744073709551613+1+1)) (18446744073709551613+1+1)) s n) LI:=by
  unfold Zh.S0
  refine Zta _ (Zvg1 s n) fun r hr=>Zue (Zcf (fun hb=>?_) fun _=>Zg (LI.nil _))
  obtain ⟨h1,h2,h3,h4⟩:=hr hb
  exact main 18446744073709551613 r.1 h1 h2 (by omega) r.1.toNat 0 _ r.2.1 [] (by omega) (by omega) (by omega) h3 h4 rfl fun x hx=>by cases hx
 show Ret (Zh.S (Zh.S0 (Zh.l1 (Zh.t2 (18446744073709551613+1+1)) (18446744073709551613+1+1))) s n) _
 unfold Zh.S
 exact Zia (fun _=>Zg (LI.nil _)) fun _=>Zia (fun _=>Zg (LI.nil _)) fun _=>Znd (fun _=>Zrf (fun _=>Zg (LI.nil _)) fun _=>go) fun _=>go
theorem Zpj2 {D:List Int} {i:Nat} (h:i<D.length):intsB D=intsB (D.take i)++(vB D[i]++intsB (D.drop (i+1))):=by
 have h2:intsB D=intsB (D.take i++D[i] :: D.drop (i+1)):=congrArg intsB (by rw [← List.drop_eq_getElem_cons h,List.take_append_drop])
 rw [h2]
 unfold intsB
 rw [List.flatMap_append,List.flatMap_cons]
theorem Zuo1 {D:List Int} (hD:D.length≤65536) (h64:∀ x∈D,in64 x) {s:ByteArray} {pre tail:List Int} (hs:Zk s=pre++(intsB D++tail)) (hsz:s.size<100000000) {o2:ByteArray→Int→Int→Int→List Int→Option (List Int×Int)} {xn:Int}:
  ∀ (d i n:Nat),d=D.length-i→i≤D.length→d<n→
  Zh.l1 o2 n s xn (D.length:Int) ((pre.length+(intsB (D.take i)).length:Nat):Int) (D.take i) (i:Int)=o2 s xn (D.length:Int) ((pre.length+(intsB D).length:Nat):Int) D:=by
 have hsl:s.size=pre.length+((intsB D).length+tail.length):=by rw [← Zha,hs,List.length_append,List.length_append]
 intro d
 induction d with
 | zero=>
  intro i n hd hi hn
  have:i=D.length:=by omega
  subst this
  obtain ⟨n,rfl⟩:∃ k,n=k+1:=⟨n-1,by omega⟩
  show Zh.S1 _ _ _ _ _ _ _ _=_
  unfold Zh.S1
  rw [lt_f (by omega),cond_false,List.take_length]
 | succ d ih=>
  intro i n hd hi hn
  obtain ⟨n,rfl⟩:∃ k,n=k+1:=⟨n-1,by omega⟩
  have hlt:i<D.length:=by omega
  have hsplit:=Zpj2 hlt
  have hil:=congrArg List.length hsplit
  rw [List.length_append,List.length_append] at hil
  have hcut:Zk (cutS s ((pre.length+(intsB (D.take i)).length:Nat):Int) (lenS s))=vB D[i]++(intsB (D.drop (i+1))++tail):=by
   have:=Znf (s:=s) (a:=pre++intsB (D.take i)) (rest:=vB D[i]++(intsB (D.drop (i+1))++tail)) (by rw [hs,hsplit];simp)
   rw [List.length_append] at this
   exact this
  have hv:=Zbe D[i]
  have hih:=ih (i+1) n (by omega) (by omega) (by omega)
  rw [take_one hlt,Zsq,List.length_append] at hih
  show Zh.S1 o2 (Zh.l1 o2 n) _ _ _ _ _ _=_
  unfold Zh.S1
  rw [lt_t (by omega),cond_true,Zzb (by rw [Zma];omega),cond_true,← Zng,Zwg (h64 _ (List.getElem_mem hlt)) hcut,Option.bind_some]
  dsimp only
  rw [ne_f rfl,cond_false,Zna (by rw [List.length_take];omega),cond_true,Zn (by omega),Zn (by omega),show ((pre.length+(intsB (D.take i)).length:Nat):Int)+((vB D[i]).length:Int)=((pre.length+((intsB (D.take i)).length+(vB D[i]).length):Nat):Int) by omega]
  exact hih
theorem Zod1 {K n:Int} (hK:in64 K) (h1:1≤K) (h2:K≤n) {s:ByteArray} {rest:List Int} (hs:Zk s=vB K++rest):Zxj s n=some (K,((vB K).length:Int),true):=by
 unfold Zxj
 rw [← Zng,Zwg hK hs,Option.bind_some]
 dsimp only
 rw [eq_t rfl,cond_true,le_t h1,cond_true,le_t h2]
theorem Zvo1 (l:List Int) (hl:l.length≤65536) (h64:∀ x∈l,in64 x) {s:ByteArray} (hs:Zk s=dictB l (widN (Zua l))):Zh s (l.length:Int)=some (l,0):=by
 show Zh.S (Zh.S0 (Zh.l1 (Zh.t2 (18446744073709551613+1+1)) (18446744073709551613+1+1))) s _=_
 unfold Zh.S
 rw [lt_f (by omega),cond_false,lt_f (by omega),cond_false]
 by_cases h0:l.length=0
 ·have hse:s=eB:=size0.2 (by rw [← Zha,hs];unfold dictB;rw [if_pos h0];rfl)
  rw [eq_t (by omega),cond_true,eqS_t hse,cond_true,List.eq_nil_of_length_eq_zero h0]
 ·have hdl:=Zvi l
  have hdp:=Zwy (l:=l) (by omega)
  have hpl:=Zgh l
  have hs0:=hs
  unfold dictB at hs
  rw [if_neg h0] at hs
  obtain ⟨_,w2,w3⟩:=Zte (Zua l) (by omega)
  have hb:(Zua l).length*widN (Zua l)≤65536*64:=Nat.mul_le_mul (by omega) w2
  have hpb:=Zpe (Zua l) (widN (Zua l))
  have k1:=Zbe ((dictI l).length:Int)
  have k2:=Zpj (dictI l)
  have hsz:s.size=(vB ((dictI l).length:Int)).length+((intsB (dictI l)).length+(packB (Zua l) (widN (Zua l))).length):=by rw [← Zha,hs,List.length_append,List.length_append]
  rw [eq_f (by omega),cond_false]
  unfold Zh.S0
  rw [Zod1 (by unfold in64;omega) (by omega) (by omega) hs,Option.bind_some]
  dsimp only
  rw [Bool.not_true,cond_false]
  have hloop:=Zuo1 (D:=dictI l) (by omega) (fun x hx=>h64 x (((Zyf l).2 x).1 hx)) hs (by omega) (o2:=Zh.t2 (18446744073709551613+1+1)) (xn:=(l.length:Int)) (dictI l).length 0 (18446744073709551613+1+1) (by omega) (by omega) (by omega)
  rw [List.take_zero,show intsB []=[] from rfl,List.length_nil,Nat.add_zero] at hloop
  refine Eq.trans hloop ?_
  show Zh.S2 (Zh.l3 (Zh.t4 (18446744073709551613+1)) (18446744073709551613+1)) s _ _ _ _=_
  unfold Zh.S2
  have hvv:widN [((dictI l).length:Int)-1]=widN (Zua l):=(Zxd1 hl (by omega) (Zte [((dictI l).length:Int)-1] (by show 1≤65536;omega)).2.2).unique w3
  have hcut:Zk (cutS s (((vB ((dictI l).length:Int)).length+(intsB (dictI l)).length:Nat):Int) (lenS s))=packB (Zua l) (widN (Zua l)):=by
   have:=Znf (s:=s) (a:=vB ((dictI l).length:Int)++intsB (dictI l)) (rest:=packB (Zua l) (widN (Zua l))) (by rw [hs,List.append_assoc])
   rw [List.length_append] at this
   exact this
  have hcs:(cutS s (((vB ((dictI l).length:Int)).length+(intsB (dictI l)).length:Nat):Int) (lenS s)).size≤1000000:=by rw [← Zha,hcut,hpb];omega
  have hpk:=Zvk (l:=Zua l) (w:=widN (Zua l)) w2 (by omega) (fun x hx=>by have:=Zjk x hx;unfold in64;omega) w3.1 hcut
  rw [hpl] at hpk
  rw [Zzb (by rw [Zma];omega),cond_true,Zow,Zqb (by omega),hvv,Option.bind_some]
  rw [Zrh _ _ (by omega) (by omega) hcs,hpk,Option.bind_some]
  dsimp only
  rw [ne_f rfl,cond_false]
  have hfl:=Zto1 s 18446744073709551613 (D:=dictI l) (P:=Zua l) (by omega) (fun x hx=>Zjk x hx) (Zua l).length 0 (18446744073709551613+1) (by omega) (by omega) (by omega)
  rw [Zyd1 l] at hfl
  refine Eq.trans hfl ?_
  unfold Zh.S4
  rw [Zfn l hl h64,Option.bind_some,← hs0,Zrd]
  dsimp only
  rw [eqS_t rfl]
  rfl
end Go.AM.Pure
end

section
/- The document's Takes of texts by dictionaries and runs; by whatever code. -/
namespace Go.AM.Pure
open Go.AM
theorem Zlu1 (s:ByteArray) {l:List ByteArray} (hl:l.length≤65536) (h:Short l):Ret (Zq.S2 s l) LT:=by
 unfold Zq.S2
 exact Zsd (Zbm l hl h) (Zue (Zrf (fun _=>Zg hl) fun _=>Zg (LT.nil _)))
theorem Short.snoc {o:List ByteArray} (h:Short o) {t:ByteArray} (ht:t.size≤32):Short (o++[t]):=fun x hx=>by
 rcases List.mem_append.1 hx with hx | hx
 ·exact h x hx
 ·rw [List.mem_singleton.1 hx];exact ht
theorem Zpo1 (s:ByteArray) (f:Nat) {D:List ByteArray} {P:List Int} (hP:P.length≤65536) (hD:Short D):∀ (d i n:Nat) (o:List ByteArray),d=P.length-i→i≤P.length→d<n→o.length=i→Short o→Ret (Zq.l1 (Zq.t2 (f+1)) n s D P o (i:Int)) LT:=by
 intro d
 induction d with
 | zero=>
  intro i n o hd hi hn ho hsh
  obtain ⟨n,rfl⟩:∃ k,n=k+1:=⟨n-1,by omega⟩
  show Ret (Zq.S1 Zq.S2 _ _ _ _ _ _) _
  unfold Zq.S1
  rw [Zf]
  exact Zia (fun _=>by omega) fun _=>Zlu1 s (by omega) hsh
 | succ d ih=>
  intro i n o hd hi hn ho hsh
  obtain ⟨n,rfl⟩:∃ k,n=k+1:=⟨n-1,by omega⟩
  have hlt:i<P.length:=by omega
  show Ret (Zq.S1 _ (Zq.l1 (Zq.t2 (f+1)) n) _ _ _ _ _) _
  unfold Zq.S1
  rw [Zf,Zf,Zy hlt,Zn (by omega)]
  refine Zia (fun _=>Zya (by omega) (Zia (fun _=>Zg (LT.nil _)) fun c1=>Zya (by omega) (Znj (fun _=>Zg (LT.nil _)) fun c2=>Zya (by omega) (Zya (by omega) (Zae (by omega) (ih (i+1) n _ (by omega) (by omega) (by omega) (by rw [List.length_append,ho];rfl) (hsh.snoc ?_))))))) fun _=>by omega
  obtain ⟨q,hq⟩:∃ q:Nat,P[i]=q:=⟨P[i].toNat,by omega⟩
  rw [hq,Zy (by omega)]
  exact hD _ (List.getElem_mem _)
theorem Zrg1 (s:ByteArray) (f:Nat) {D:List ByteArray} {P:List Int} (hP:P.length≤65536) (hPm:∀ x∈P,0≤x∧x<(D.length:Int)):∀ (d i n:Nat),d=P.length-i→i≤P.length→d<n→
  Zq.l1 (Zq.t2 (f+1)) n s D P ((P.take i).map fun x=>D.getD x.toNat eB) (i:Int)=Zq.S2 s (P.map fun x=>D.getD x.toNat eB):=by
 intro d
 induction d with
 | zero=>
  intro i n hd hi hn
  have:i=P.length:=by omega
  subst this
  obtain ⟨n,rfl⟩:∃ k,n=k+1:=⟨n-1,by omega⟩
  show Zq.S1 Zq.S2 _ _ _ _ _ _=_
  unfold Zq.S1
  rw [Zf,lt_f (by omega),cond_false,List.take_length]
 | succ d ih=>
  intro i n hd hi hn
  obtain ⟨n,rfl⟩:∃ k,n=k+1:=⟨n-1,by omega⟩
  have hlt:i<P.length:=by omega
  have hx:=hPm P[i] (List.getElem_mem hlt)
  show Zq.S1 _ (Zq.l1 (Zq.t2 (f+1)) n) _ _ _ _ _=_
  unfold Zq.S1
  rw [Zf,Zf,lt_t (by omega),cond_true,Zu (i:=(i:Int)) (by omega),cond_true,Zy hlt,lt_f hx.1,cond_false,cond_true,le_f hx.2,cond_false,cond_true,Zu hx,cond_true,Zna (by rw [List.length_map,List.length_take];omega),cond_true,Zn (by omega)]
  have:=ih (i+1) n (by omega) (by omega) (by omega)
  rw [take_one hlt,List.map_append] at this
  exact this
theorem Zqo1 (s:ByteArray) {n:Int} (hn:n≤65536) (hs:s.size≤65536):Ret (Zq s n) LT:=by
 have go:Ret (Zq.S0 (Zq.l1 (Zq.t2 (18446744073709551614+1)) (18446744073709551614+1)) s n) LT:=by
  unfold Zq.S0
  refine Zta _ (Zvg1 s n) fun r hr=>Zue (Zcf (fun hb=>?_) fun _=>Zg (LT.nil _))
  obtain ⟨h1,h2,h3,h4⟩:=hr hb
  have hc:=Zii h3 h4
  rw [Zma]
  refine Zpd (by omega) ?_
  rw [Zx7]
  refine Zta _ (Zr6 _ (by omega) (by omega) (by omega)) fun q hq=>Zue (Zcf (fun hb2=>?_) fun _=>Zg (LT.nil _))
  obtain ⟨k1,k2,k3,k4⟩:=hq hb2
  rw [Zn (by omega)]
  have hcl:=Zoh s (r.2.1+q.2.1) (s.size:Int)
  refine Zpd (by omega) (Zsd (Zow r.1) ?_)
  rw [Zrh _ _ (by omega) (by omega) (by omega)]
  refine Zta _ (Ztj _ _ (by omega) hn) fun z hz=>Zqc (fun _=>Zg (LT.nil _)) fun hz0=>?_
  have hzl:=hz.len hz0
  exact Zpo1 s _ (by omega) k2 z.1.length 0 _ [] (by omega) (by omega) (by omega) rfl fun x hx=>by cases hx
 show Ret (Zq.S (Zq.S0 (Zq.l1 (Zq.t2 (18446744073709551614+1)) (18446744073709551614+1))) s n) _
 unfold Zq.S
 exact Zia (fun _=>Zg (LT.nil _)) fun _=>Zia (fun _=>Zg (LT.nil _)) fun _=>Znd (fun _=>Zrf (fun _=>Zg (LT.nil _)) fun _=>go) fun _=>go
theorem Zsg1 (l:List ByteArray) (hl:l.length≤65536) (hsh:Short l) {s:ByteArray} (hs:Zk s=Zkj l (widN (Zca l))):Zq s (l.length:Int)=some (l,0):=by
 show Zq.S (Zq.S0 (Zq.l1 (Zq.t2 (18446744073709551614+1)) (18446744073709551614+1))) s _=_
 unfold Zq.S
 rw [lt_f (by omega),cond_false,lt_f (by omega),cond_false]
 by_cases h0:l.length=0
 ·have hse:s=eB:=size0.2 (by rw [← Zha,hs];unfold Zkj;rw [if_pos h0];rfl)
  rw [eq_t (by omega),cond_true,eqS_t hse,cond_true,List.eq_nil_of_length_eq_zero h0]
 ·have hsp:=Zfh l
  have hdl:=Zvg l
  have hdp:=hsp.pos (by omega)
  have hpl:(Zca l).length=l.length:=Zfg _ _
  have hs0:=hs
  unfold Zkj at hs
  rw [if_neg h0] at hs
  obtain ⟨_,w2,w3⟩:=Zte (Zca l) (by omega)
  have hb:(Zca l).length*widN (Zca l)≤65536*64:=Nat.mul_le_mul (by omega) w2
  have hpb:=Zpe (Zca l) (widN (Zca l))
  have k1:=Zbe ((dictT l).length:Int)
  have k2:=Zif _ hsh.dict
  have hsz:s.size=(vB ((dictT l).length:Int)).length+((Zla (dictT l)).length+(packB (Zca l) (widN (Zca l))).length):=by rw [← Zha,hs,List.length_append,List.length_append]
  rw [eq_f (by omega),cond_false]
  unfold Zq.S0
  rw [Zod1 (by unfold in64;omega) (by omega) (by omega) hs,Option.bind_some]
  dsimp only
  have hc1:=Znf hs
  have hc1l:(cutS s ((vB ((dictT l).length:Int)).length:Int) (lenS s)).size≤s.size:=Zoh _ _ _
  rw [Bool.not_true,cond_false,Zzb (by rw [Zma];omega),cond_true,Zx7,Ziy (by omega) hsh.dict hc1 (by omega),Option.bind_some]
  dsimp only
  have hvv:widN [((dictT l).length:Int)-1]=widN (Zca l):=(Zp01 Zmi hsp (by omega) (Zte [((dictT l).length:Int)-1] (by show 1≤65536;omega)).2.2 (by omega)).unique w3
  have hcut:Zk (cutS s (((vB ((dictT l).length:Int)).length+(Zla (dictT l)).length:Nat):Int) (lenS s))=packB (Zca l) (widN (Zca l)):=by
   have:=Znf (s:=s) (a:=vB ((dictT l).length:Int)++Zla (dictT l)) (rest:=packB (Zca l) (widN (Zca l))) (by rw [hs,List.append_assoc])
   rw [List.length_append] at this
   exact this
  have hcs:(cutS s (((vB ((dictT l).length:Int)).length+(Zla (dictT l)).length:Nat):Int) (lenS s)).size≤1000000:=by rw [← Zha,hcut,hpb];omega
  have hpk:=Zvk (l:=Zca l) (w:=widN (Zca l)) w2 (by omega) (fun x hx=>by have:=Zlj hsp x hx;unfold in64;omega) w3.1 hcut
  rw [hpl] at hpk
  rw [Bool.not_true,cond_false,Zn (by omega),show ((vB ((dictT l).length:Int)).length:Int)+((Zla (dictT l)).length:Int)=(((vB ((dictT l).length:Int)).length+(Zla (dictT l)).length:Nat):Int) by omega,Zzb (by rw [Zma];omega),cond_true,Zow,Zqb (by omega),hvv,Option.bind_some,Zrh _ _ (by omega) (by omega) hcs,hpk,Option.bind_some]
  dsimp only
  rw [ne_f rfl,cond_false]
  have hfl:=Zrg1 s 18446744073709551614 (D:=dictT l) (P:=Zca l) (by omega) (fun x hx=>Zlj hsp x hx) (Zca l).length 0 (18446744073709551614+1) (by omega) (by omega) (by omega)
  rw [Zrw hsp eB] at hfl
  refine Eq.trans hfl ?_
  unfold Zq.S2
  rw [Zbm l hl hsh,Option.bind_some,← hs0,Zrd]
  dsimp only
  rw [eqS_t rfl]
  rfl
theorem Zoz1 (D:List ByteArray) {P:List Int} (hP:P.length≤65536):∀ (d i n:Nat) (o:List ByteArray),d=P.length-i→i≤P.length→d<n→o.length=i→Ret (Zdb.l0 n D P o (i:Int)) fun r=>r.1.length≤65536:=by
 intro d
 induction d with
 | zero=>
  intro i n o hd hi hn ho
  obtain ⟨n,rfl⟩:∃ k,n=k+1:=⟨n-1,by omega⟩
  show Ret (Zdb.S0 _ _ _ _ _) _
  unfold Zdb.S0
  rw [Zf]
  exact Zia (fun _=>by omega) fun _=>Zg (by show o.length≤_;omega)
 | succ d ih=>
  intro i n o hd hi hn ho
  obtain ⟨n,rfl⟩:∃ k,n=k+1:=⟨n-1,by omega⟩
  show Ret (Zdb.S0 (Zdb.l0 n) _ _ _ _) _
  unfold Zdb.S0
  rw [Zf,Zf,Zn (by omega)]
  exact Zia (fun _=>Zya (by omega) (Zia (fun _=>Zg (Nat.zero_le _)) fun c1=>Zya (by omega) (Znj (fun _=>Zg (Nat.zero_le _)) fun c2=>Zya (by omega) (Zya (by omega) (Zae (by omega) (ih (i+1) n _ (by omega) (by omega) (by omega) (by rw [List.length_append,ho];rfl))))))) fun _=>by omega
theorem Zmu1 {D:List ByteArray} {P:List Int} (hP:P.length≤65536) (hPm:∀ x∈P,0≤x∧x<(D.length:Int)):∀ (d i n:Nat),d=P.length-i→i≤P.length→d<n→
  Zdb.l0 n D P ((P.take i).map fun x=>D.getD x.toNat eB) (i:Int)=some (P.map fun x=>D.getD x.toNat eB,true):=by
 intro d
 induction d with
 | zero=>
  intro i n hd hi hn
  have:i=P.length:=by omega
  subst this
  obtain ⟨n,rfl⟩:∃ k,n=k+1:=⟨n-1,by omega⟩
  show Zdb.S0 _ _ _ _ _=_
  unfold Zdb.S0
  rw [Zf,lt_f (by omega),cond_false,List.take_length]
 | succ d ih=>
  intro i n hd hi hn
  obtain ⟨n,rfl⟩:∃ k,n=k+1:=⟨n-1,by omega⟩
  have hlt:i<P.length:=by omega
  have hx:=hPm P[i] (List.getElem_mem hlt)
  show Zdb.S0 (Zdb.l0 n) _ _ _ _=_
  unfold Zdb.S0
  rw [Zf,Zf,lt_t (by omega),cond_true,Zu (i:=(i:Int)) (by omega),cond_true,Zy hlt,lt_f hx.1,cond_false,cond_true,le_f hx.2,cond_false,cond_true,Zu hx,cond_true,Zna (by rw [List.length_map,List.length_take];omega),cond_true,Zn (by omega)]
  have:=ih (i+1) n (by omega) (by omega) (by omega)
  rw [take_one hlt,List.map_append] at this
  exact this
theorem Zrf1 (s:ByteArray) {n:Int} (hn:n≤65536) (hs:s.size≤65536):Ret (Zdb s n) fun r=>r.1.length≤65536:=by
 show Ret (Zdb.S (Zdb.l0 fu) s n) _
 unfold Zdb.S
 have no:([]:List ByteArray).length≤65536:=Nat.zero_le _
 refine Znd (fun _=>Zg no) fun _=>Zta _ (Zuq s) fun r hr=>Zqc (fun _=>Zg no) fun _=>Zia (fun _=>Zg no) fun c1=>Zia (fun _=>Zg no) fun c2=>?_
 obtain ⟨_,r2,r3⟩:=hr.all
 have hc:=Zii r2 r3
 rw [Zma]
 refine Zpd (by omega) (Zta _ (Zr6 _ (by omega) (by omega) (by omega)) fun q hq=>Zue (Zcf (fun hb=>?_) fun _=>Zg no))
 obtain ⟨_,_,k3,k4⟩:=hq hb
 have hcl:=Zoh s (r.2.1+q.2.1) (s.size:Int)
 rw [Zn (by omega)]
 refine Zpd (by omega) ?_
 rw [Zkq _ (by omega) hn (by omega)]
 refine Zta _ (Zms _ (by omega) hn (by omega)) fun z hz=>Zqc (fun _=>Zg no) fun he=>?_
 obtain ⟨z1,z2⟩:=hz.2 he
 exact Zsd (Zlq z.1 z1 (by omega)) (Zoz1 q.1 (P:=flatR z.1) (by omega) (flatR z.1).length 0 fu [] (by omega) (by omega) (by unfold fu;omega) rfl)
theorem Zxb1 (l:List ByteArray) (hl:l.length≤64) (hsh:Short l) {s:ByteArray} (hs:Zk s=runTB l):Zdb s (l.length:Int)=some (l,true):=by
 show Zdb.S (Zdb.l0 fu) s _=_
 unfold Zdb.S
 unfold runTB at hs
 by_cases h0:l.length=0
 ·rw [if_pos h0] at hs
  have hse:s=eB:=size0.2 (by rw [← Zha,hs];rfl)
  rw [eq_t (by omega),cond_true,eqS_t hse,List.eq_nil_of_length_eq_zero h0]
 ·rw [if_neg h0] at hs
  have hdl:=Zvg l
  have hsp:=Zfh l
  have hdp:=hsp.pos (by omega)
  have hpl:(Zca l).length=l.length:=Zfg _ _
  have k1:=Zbe ((dictT l).length:Int)
  have k2:=Zif _ hsh.dict
  obtain ⟨r1,r2,r3⟩:=Zik (Zca l) (by omega)
  have k3:=Zdj (runO (Zca l))
  have k4:=Zbg _ _ _ r3
  rw [r2] at k4
  have hsz:s.size=(vB ((dictT l).length:Int)).length+((Zla (dictT l)).length+(runB (runO (Zca l))).length):=by rw [← Zha,hs,List.length_append,List.length_append]
  have hc1:=Znf hs
  have hc1l:(cutS s ((vB ((dictT l).length:Int)).length:Int) (lenS s)).size≤s.size:=Zoh _ _ _
  rw [eq_f (by omega),cond_false,← Zng,Zwg (by unfold in64;omega) hs,Option.bind_some]
  dsimp only
  rw [ne_f rfl,cond_false,lt_f (by omega),cond_false,lt_f (by omega),cond_false,Zzb (by rw [Zma];omega),cond_true,Ziy (by omega) hsh.dict hc1 (by omega),Option.bind_some]
  dsimp only
  have hcut:Zk (cutS s (((vB ((dictT l).length:Int)).length+(Zla (dictT l)).length:Nat):Int) (lenS s))=runB (runO (Zca l)):=by
   have:=Znf (s:=s) (a:=vB ((dictT l).length:Int)++Zla (dictT l)) (rest:=runB (runO (Zca l))) (by rw [hs,List.append_assoc])
   rw [List.length_append] at this
   exact this
  have hcs:(cutS s (((vB ((dictT l).length:Int)).length+(Zla (dictT l)).length:Nat):Int) (lenS s)).size≤65536:=by rw [← Zha,hcut];omega
  have ht:=Zmr (runO (Zca l)) r3 (by rw [r2];omega) (fun r hr=>by
   have hm:r.1∈Zca l:=r2 ▸ Zlr r3 r hr
   have:=Zlj hsp r.1 hm
   unfold in64;omega) hcut
  rw [r2,hpl] at ht
  rw [Bool.not_true,cond_false,Zn (by omega),show ((vB ((dictT l).length:Int)).length:Int)+((Zla (dictT l)).length:Int)=(((vB ((dictT l).length:Int)).length+(Zla (dictT l)).length:Nat):Int) by omega,Zzb (by rw [Zma];omega),cond_true,Zkq _ (by omega) (by omega) hcs,ht,Option.bind_some]
  dsimp only
  rw [ne_f rfl,cond_false,Zlq _ r3 (by rw [r2];omega),r2,Option.bind_some]
  dsimp only
  have:=Zmu1 (D:=dictT l) (P:=Zca l) (by omega) (fun x hx=>Zlj hsp x hx) (Zca l).length 0 fu (by omega) (by omega) (by unfold fu;omega)
  rw [Zrw hsp eB] at this
  exact this
theorem Znd1 (s:ByteArray) {n:Int} {code:Int} (h0:0≤n) (hn:n≤65536) (hs:s.size≤65536) (hc:code≠4):Zig s n code=(Zci s n code).bind fun r=>some (r.1,eqI r.2 0):=by
 unfold Zig Zci
 by_cases h1:code=1
 ·rw [eq_t h1,cond_true,cond_true,Zo5 s n hs]
  by_cases hq:0≤n∧(s.size:Int)=8*n
  ·obtain ⟨k,rfl⟩:∃ k:Nat,n=k:=⟨n.toNat,by omega⟩
   rw [if_pos hq,Zem s (n:=k) (by omega) (by omega)]
   rfl
  ·rw [if_neg hq]
   have:Zfa s n=some ([],20):=by
    show Zfa.S (Zfa.l0 fu) s n=_
    unfold Zfa.S
    rw [Zma,rem8,quo8 _ (by omega),lt_f h0,cond_false]
    by_cases hz:((s.size % 8:Nat):Int)=0
    ·rw [ne_f hz,cond_false,ne_t (by omega),cond_true]
    ·rw [ne_t hz,cond_true]
   rw [this]
   rfl
 ·rw [eq_f h1,cond_false,cond_false]
  by_cases h2:code=2
  ·rw [eq_t h2,cond_true,cond_true,Zkq s h0 hn hs]
   obtain ⟨r,r1,r2⟩:=Zms s h0 hn hs
   rw [r1,Option.bind_some,Option.bind_some]
   by_cases he:r.2=0
   ·obtain ⟨k1,k2⟩:=r2.2 he
    rw [ne_f he,cond_false,cond_false,Zlq r.1 k1 (by omega),Zuk r.1 k1 (by omega)]
    rfl
   ·rw [ne_t he,cond_true,cond_true,Option.bind_some]
    dsimp only
    rw [eq_f he]
  ·rw [eq_f h2,cond_false,cond_false]
   by_cases h3:code=3
   ·rw [eq_t h3,cond_true,cond_true,Ztf1 s h0 hn hs]
    cases Zo s n <;> rfl
   ·rw [eq_f h3,cond_false,cond_false,eq_f hc,cond_false,cond_false]
    by_cases h5:code=5
    ·rw [eq_t h5,cond_true,cond_true]
     by_cases he:s=eB
     ·rw [eqS_t he]
      rfl
     ·have hsz:0<s.size:=by
       rcases Nat.eq_zero_or_pos s.size with h | h
       ·exact absurd (size0.2 h) he
       ·exact h
      have hcl:=Zoh s 1 (s.size:Int)
      rw [eqS_f he,Bool.not_false,cond_true,cond_false,Zma,Zzb (by omega),cond_true,cond_true,Zu (by omega),cond_true,cond_true,Zrh _ _ h0 hn (by omega)]
      cases Zab (cutS s 1 (s.size:Int)) n (IntKind.wrap .i64 (byteAt s 0)) <;> rfl
    ·rw [eq_f h5,cond_false,cond_false]
     rfl
theorem Ztg1 (s:ByteArray) {n:Int} (code:Int) (h0:0≤n) (hn:n≤65536) (hs:s.size≤65536):Ret (Zig s n code) fun r=>LI (r.1,0):=by
 by_cases hc:code=4
 ·subst hc
  unfold Zig
  exact Znd (fun h=>by omega) fun _=>Znd (fun h=>by omega) fun _=>Znd (fun h=>by omega) fun _=>Znd (fun _=>Zta _ (Zpu1 s hn hs) fun r hr=>Zg hr) fun h=>absurd rfl h
 ·rw [Znd1 s h0 hn hs hc]
  exact Zta _ (Zay s code h0 hn hs) fun r hr=>Zg hr
theorem Zsf1 {l:List Int} (hl:l.length≤64) (h64:∀ x∈l,in64 x) {code:Int} {b:List Int} (h:numB l code=some b) {s:ByteArray} (hs:Zk s=b):Zig s (l.length:Int) code=some (l,true):=by
 have hb:=(Zgh1 (by omega) h).2
 have hsz:s.size=b.length:=by rw [← Zha,hs]
 by_cases hc:code=4
 ·subst hc
  have hd:b=dictB l (widN (Zua l)):=by
   unfold numB at h
   rw [if_neg (by omega),if_neg (by omega),if_neg (by omega),if_pos rfl] at h
   exact (Option.some.inj h).symm
  unfold Zig
  rw [eq_f (by omega),cond_false,eq_f (by omega),cond_false,eq_f (by omega),cond_false,eq_t rfl,cond_true,Zvo1 l (by omega) h64 (by rw [hs,hd])]
  rfl
 ·rw [Znd1 s (by omega) (by omega) (by omega) hc,Zby (by omega) h64 h hs]
  rfl
theorem Zro1 (s:ByteArray) {n:Int} (code:Int) (hn:n≤65536) (hs:s.size≤65536):Ret (Zui s n code) fun r=>r.1.length≤65536:=by
 unfold Zui
 exact Znd (fun _=>Zta _ (Zpz1 s hn hs) fun r hr=>Zg hr) fun _=>Znd (fun _=>Zta _ (Zrf1 s hn hs) fun r hr=>Zg hr) fun _=>Znd (fun _=>Zta _ (Zqo1 s hn hs) fun r hr=>Zg hr) fun _=>Zg (Nat.zero_le _)
theorem Zug1 {l:List ByteArray} (hl:l.length≤64) (hsh:Short l) {code:Int} {b:List Int} (h:wordB l code=some b) {s:ByteArray} (hs:Zk s=b):Zui s (l.length:Int) code=some (l,true):=by
 unfold Zui
 unfold wordB at h
 by_cases h1:code=1
 ·rw [if_pos h1] at h
  rw [eq_t h1,cond_true,Znu1 l (by omega) hsh (by rw [hs,← Option.some.inj h])]
  rfl
 ·rw [if_neg h1] at h
  rw [eq_f h1,cond_false]
  by_cases h4:code=4
  ·rw [if_pos h4] at h
   rw [eq_f (by omega),cond_false,eq_t h4,cond_true,Zsg1 l (by omega) hsh (by rw [hs,← Option.some.inj h])]
   rfl
  ·rw [if_neg h4] at h
   by_cases h2:code=2
   ·rw [if_pos h2] at h
    rw [eq_t h2,cond_true,Zxb1 l hl hsh (by rw [hs,← Option.some.inj h])]
    rfl
   ·rw [if_neg h2] at h
    cases h
end Go.AM.Pure
end

section
/- BlockTakes. -/
namespace Go.AM.Pure
open Go.AM
theorem Zog1 (s:ByteArray) {n:Int} (h0:0≤n) (hn:n≤65536) (hs:s.size≤65536):∃ b ok,Zfb s n=some (b,ok)∧b.length≤65536∧(∀ x∈b,x=0∨x=1)∧((ok=true∧Zpg s n=some (b,0))∨(ok=false∧∃ e,e≠0∧Zpg s n=some ([],e))):=by
 have hbr:=Zs6 s h0 hn
 show ∃ b ok,Zfb.S (Zfb.l0 (Zfb.t1 fu) fu) s n=some (b,ok)∧_
 unfold Zfb.S
 unfold Zpg at hbr ⊢
 rw [lt_f (by omega),cond_false,lt_f (by omega),cond_false] at hbr ⊢
 by_cases he:s=eB
 ·rw [eqS_t he,cond_true,cond_true,le_t h0,Zna (by omega)]
  exact ⟨_,_,rfl,by rw [List.length_replicate];omega,fun x hx=> .inl (List.mem_replicate.1 hx).2, .inl ⟨rfl,rfl⟩⟩
 ·rw [eqS_f he,cond_false] at hbr ⊢
  rw [cond_false,Zrh s 1 h0 hn (by omega)]
  obtain ⟨⟨b,e⟩,p1,p2⟩:=Ztj s 1 h0 hn
  have hli:=p2.li hn
  have hbl:b.length≤65536:=hli.1
  have h01:∀ x∈b,x=0∨x=1:=by
   rcases p2 with ⟨_,_,_,h⟩ | ⟨_,h⟩
   ·have h:b=_:=h
    rw [h]
    intro x hx
    obtain ⟨k,_,rfl⟩:=List.mem_map.1 hx
    exact Zqd1 s k
   ·have h:b=[]:=h
    rw [h]
    intro x hx
    cases hx
  have main:∀ (d i m:Nat) (y:Bool),d=b.length-i→i≤b.length→d<m→Zfb.l0 (Zfb.t1 fu) m b e y (i:Int)=Zfb.S1 b e (y || (b.drop i).any fun x=>decide (x=1)):=by
   intro d
   induction d with
   | zero=>
    intro i m y hd hi hm
    obtain ⟨m,rfl⟩:∃ j,m=j+1:=⟨m-1,by omega⟩
    have:i=b.length:=by omega
    subst this
    show Zfb.S0 Zfb.S1 _ _ _ _ _=_
    unfold Zfb.S0
    rw [Zf,lt_f (by omega),cond_false,List.drop_length,List.any_nil,Bool.or_false]
   | succ d ih=>
    intro i m y hd hi hm
    obtain ⟨m,rfl⟩:∃ j,m=j+1:=⟨m-1,by omega⟩
    have hlt:i<b.length:=by omega
    show Zfb.S0 _ (Zfb.l0 (Zfb.t1 fu) m) _ _ _ _=_
    unfold Zfb.S0
    rw [Zf,lt_t (by omega),cond_true,Zu (by omega),cond_true,Zy hlt,Zn (by omega),List.drop_eq_getElem_cons hlt,List.any_cons]
    cases y with
    | true=>exact (ih (i+1) m true (by omega) (by omega) (by omega)).trans (by rw [Bool.true_or,Bool.true_or])
    | false=>exact (ih (i+1) m _ (by omega) (by omega) (by omega)).trans (by rw [Bool.false_or];rfl)
  have h1:=main b.length 0 fu false (by omega) (by omega) (by unfold fu;omega)
  rw [p1,Option.bind_some,Option.bind_some]
  dsimp only
  rw [show (0:Int)=((0:Nat):Int) from rfl,h1,List.drop_zero,Bool.false_or]
  unfold Zfb.S1
  by_cases hz:e=0
  ·rw [eq_t hz,cond_true,show ((0:Nat):Int)=0 from rfl,ne_f hz,cond_false,Znr b (by omega),Option.bind_some]
   refine ⟨b,_,rfl,hbl,h01,?_⟩
   cases (b.any fun x=>decide (x=1)) with
   | true=>exact .inl ⟨rfl,rfl⟩
   | false=>exact .inr ⟨rfl,20,by decide,rfl⟩
  ·rw [eq_f hz,cond_false,show ((0:Nat):Int)=0 from rfl,ne_t hz,cond_true]
   exact ⟨b,false,rfl,hbl,h01, .inr ⟨rfl,20,by decide,rfl⟩⟩
theorem Zpg1 (b:List Int) (hb:b.length≤65536) (hm:∀ x∈b,x=0∨x=1):∀ (d i n:Nat) (k:Int),d=b.length-i→i≤b.length→d<n→0≤k→k≤i→
  Zmc.l0 n b k (i:Int)=some (k+(b.drop i).foldr (· + ·) 0,0):=by
 intro d
 induction d with
 | zero=>
  intro i n k hd hi hn h1 h2
  have:i=b.length:=by omega
  subst this
  obtain ⟨n,rfl⟩:∃ k,n=k+1:=⟨n-1,by omega⟩
  show Zmc.S0 _ _ _ _=_
  unfold Zmc.S0
  rw [Zf,lt_f (by omega),cond_false,List.drop_length]
  simp
 | succ d ih=>
  intro i n k hd hi hn h1 h2
  obtain ⟨n,rfl⟩:∃ k,n=k+1:=⟨n-1,by omega⟩
  have hlt:i<b.length:=by omega
  show Zmc.S0 (Zmc.l0 n) _ _ _=_
  unfold Zmc.S0
  have hx:=hm b[i] (List.getElem_mem hlt)
  rw [Zf,lt_t (by omega),cond_true,Zu (by omega),cond_true,Zy hlt,Zn (by omega),Zn (by omega)]
  have:=ih (i+1) n (k+b[i]) (by omega) (by omega) (by omega) (by omega) (by omega)
  rw [show (i:Int)+1=((i+1:Nat):Int) by omega,this,List.drop_eq_getElem_cons hlt,List.foldr_cons,Int.add_assoc]
theorem Zv7 {s:ByteArray} {n:Int} (h0:0≤n) (hn:n≤65536) {b:List Int} {ok:Bool} (hb:Zfb s n=some (b,ok)) (hbl:b.length≤65536) (hm:∀ x∈b,x=0∨x=1):Zmc s n=some (if ok then (b.foldr (· + ·) 0,0) else (0,20)):=by
 show Zmc.S (Zmc.l0 fu) s n=_
 unfold Zmc.S
 rw [lt_f (by omega),cond_false,lt_f (by omega),cond_false,hb,Option.bind_some]
 dsimp only
 cases ok with
 | true=>
  have:=Zpg1 b hbl hm b.length 0 fu 0 (by omega) (by omega) (by unfold fu;omega) (by omega) (by omega)
  rw [List.drop_zero,Int.zero_add] at this
  exact this
 | false=>rfl
theorem Zr5 (s:ByteArray) {n:Int} (h0:0≤n) (hn:n≤65536) (hs:s.size≤65536):Ret (Zmc s n) fun r=>r.2=0→0≤r.1∧r.1≤n:=by
 obtain ⟨b,ok,b1,b2,b3,b4⟩:=Zog1 s h0 hn hs
 refine Zts (Zv7 h0 hn b1 b2 b3) fun h=>?_
 cases ok with
 | false=>cases h
 | true=>
  obtain ⟨i1,i2⟩:=sum01 b b3
  have hl:(b.length:Int)≤n:=by
   rcases b4 with ⟨_,h4⟩ | ⟨h4,_⟩
   ·obtain ⟨⟨b',e'⟩,k1,k2⟩:=Zs6 s h0 hn
    rw [h4] at k1
    cases k1
    rcases k2 with ⟨_,k,_⟩ | ⟨k,_⟩
    ·have k:b.length=n.toNat:=k
     omega
    ·exact absurd rfl k
   ·cases h4
  exact ⟨i2,by show b.foldr (· + ·) 0≤n;omega⟩
theorem Zfu1 (s:ByteArray) {n:Int} {l:List Cell} (hl:l.length<1000000) (f:Nat):∀ (d i m:Nat),d=l.length-i→i≤l.length→d<m→(∀ j (h:j<l.length),i≤j→l[j].1≠0)→Zba.l0 (Zba.t1 (f+1)) m s n l (i:Int)=Zba.S1 (Zba.l2 f) s n l:=by
 intro d
 induction d with
 | zero=>
  intro i m hd hi hm _
  obtain ⟨m,rfl⟩:∃ j,m=j+1:=⟨m-1,by omega⟩
  show Zba.S0 (Zba.S1 (Zba.l2 f)) _ _ _ _ _=_
  unfold Zba.S0
  rw [Zf,lt_f (by omega),cond_false]
 | succ d ih=>
  intro i m hd hi hm hne
  obtain ⟨m,rfl⟩:∃ j,m=j+1:=⟨m-1,by omega⟩
  have hlt:i<l.length:=by omega
  show Zba.S0 _ (Zba.l0 (Zba.t1 (f+1)) m) _ _ _ _=_
  unfold Zba.S0
  rw [Zf,lt_t (by omega),cond_true,Zu (by omega),cond_true,Zy hlt,eq_f (hne i hlt (Nat.le_refl _)),cond_false,Zn (by omega)]
  exact ih (i+1) m (by omega) (by omega) (by omega) fun j h hj=>hne j h (by omega)
theorem Zgu1 (s:ByteArray) {n:Int} (h0:0≤n) (hn:n≤65536) (hs:s.size≤65536) {l:List Cell} (hl:l.length≤65536) (h64:∀ c∈l,in64 c.2.1):Ret (Zba s n l) LC:=by
 obtain ⟨b,ok,b1,b2,b3,_⟩:=Zog1 s h0 hn hs
 have last:∀ (d i m:Nat) (o:List Cell) (a:Nat),d=b.length-i→i≤b.length→d<m→o.length=i→a≤i→(∀ c∈o,in64 c.2.1)→Ret (Zba.l2 m l b o (a:Int) (i:Int)) LC:=by
  intro d
  induction d with
  | zero=>
   intro i m o a hd hi hm ho ha ho64
   obtain ⟨m,rfl⟩:∃ j,m=j+1:=⟨m-1,by omega⟩
   show Ret (Zba.S2 _ _ _ _ _ _) _
   unfold Zba.S2
   rw [Zf]
   exact Zia (fun _=>by omega) fun _=>Zg ⟨by show o.length≤_;omega,ho64⟩
  | succ d ih=>
   intro i m o a hd hi hm ho ha ho64
   obtain ⟨m,rfl⟩:∃ j,m=j+1:=⟨m-1,by omega⟩
   have hlt:i<b.length:=by omega
   have add:∀ {c:Cell},in64 c.2.1→∀ x∈o++[c],in64 x.2.1:=fun hc x hx=>by
    rcases List.mem_append.1 hx with hx | hx
    ·exact ho64 x hx
    ·rw [List.mem_singleton.1 hx];exact hc
   have hol:∀ c:Cell,(o++[c]).length=i+1:=fun c=>by rw [List.length_append,ho];rfl
   show Ret (Zba.S2 (Zba.l2 m) _ _ _ _ _) _
   unfold Zba.S2
   rw [Zf,Zf,Zy hlt,Zn (a:=(i:Int)) (by omega),Zn (by omega)]
   refine Zia (fun _=>Zya (by omega) (Znd (fun _=>Zia (fun hal=>Zya (by omega) (Zae (by omega) ?_)) fun _=>Zae (by omega) ?_) fun _=>Zae (by omega) ?_)) fun _=>by omega
   ·rw [Zy (by omega)]
    exact ih (i+1) m _ (a+1) (by omega) (by omega) (by omega) (hol _) (by omega) (add (h64 _ (List.getElem_mem _)))
   ·exact ih (i+1) m _ a (by omega) (by omega) (by omega) (hol _) (by omega) (add Zjp)
   ·exact ih (i+1) m _ a (by omega) (by omega) (by omega) (hol _) (by omega) (add Zjp)
 have main:∀ (f:Nat),70000<f→∀ (d i m:Nat),d=l.length-i→i≤l.length→d<m→Ret (Zba.l0 (Zba.t1 (f+1)) m s n l (i:Int)) LC:=by
  intro f hf d
  induction d with
  | zero=>
   intro i m hd hi hm
   obtain ⟨m,rfl⟩:∃ j,m=j+1:=⟨m-1,by omega⟩
   show Ret (Zba.S0 (Zba.S1 (Zba.l2 f)) _ _ _ _ _) _
   unfold Zba.S0
   rw [Zf]
   refine Zia (fun _=>by omega) fun _=>?_
   unfold Zba.S1
   exact Zsd b1 (last b.length 0 f [] 0 (by omega) (by omega) (by omega) rfl (Nat.le_refl _) fun c hc=>by cases hc)
  | succ d ih=>
   intro i m hd hi hm
   obtain ⟨m,rfl⟩:∃ j,m=j+1:=⟨m-1,by omega⟩
   show Ret (Zba.S0 _ (Zba.l0 (Zba.t1 (f+1)) m) _ _ _ _) _
   unfold Zba.S0
   rw [Zf,Zn (by omega)]
   exact Zia (fun _=>Zya (by omega) (Znd (fun _=>Zg (LC.nil _)) fun _=>ih (i+1) m (by omega) (by omega) (by omega))) fun _=>by omega
 show Ret (Zba.S (Zba.l0 (Zba.t1 (18446744073709551615+1)) (18446744073709551615+1)) s n l) _
 unfold Zba.S
 exact Zta _ (Zr5 s h0 hn hs) fun r _=>Zqc (fun _=>Zg (LC.nil _)) fun _=>Zqc (fun _=>Zg (LC.nil _)) fun _=>main 18446744073709551615 (by omega) l.length 0 _ (by omega) (by omega) (by omega)
theorem Zqg1 {l:List Cell} (hl:l.length≤64) (h0:0<l.length) {s:ByteArray} (hs:Zk s=maskL l):Zfb s (l.length:Int)=some (nbits l,true)∧Zmc s (l.length:Int)=some (((l.length-(restC l).length:Nat):Int),0):=by
 have hml:=Zmn l
 have hsz:s.size=(maskL l).length:=by rw [← Zha,hs]
 obtain ⟨b,ok,b1,b2,b3,b4⟩:=Zog1 s (n:=(l.length:Int)) (by omega) (by omega) (by omega)
 have he:=Zoq l (by omega) h0 hs
 rcases b4 with ⟨rfl,b4⟩ | ⟨_,e,hne,b4⟩
 ·rw [he] at b4
  cases b4
  refine ⟨b1,?_⟩
  rw [Zv7 (by omega) (by omega) b1 b2 b3,nsum]
  rfl
 ·rw [he] at b4
  exact absurd (congrArg Prod.snd (Option.some.inj b4)).symm hne
theorem Zoo1 {l:List Cell} (hl:l.length≤64) (h0:0<l.length) (hz:∀ c∈l,isN c=true→c=(0,0,eB)) {s:ByteArray} (hs:Zk s=maskL l):Zba s (l.length:Int) (restC l)=some (l,0):=by
 obtain ⟨hb,hc⟩:=Zqg1 hl h0 hs
 have hle:=Zag l
 have hne:∀ j (h:j<(restC l).length),0≤j→(restC l)[j].1≠0:=fun j h _ he=>by
  have hm:(restC l)[j]∈restC l:=List.getElem_mem h
  unfold restC at hm
  have h2:=(List.mem_filter.1 hm).2
  have h3:decide ((restC l)[j].1=0)=true:=decide_eq_true he
  have h4:isN (restC l)[j]=true:=h3
  unfold restC at h4
  rw [h4] at h2
  cases h2
 show Zba.S (Zba.l0 (Zba.t1 (18446744073709551615+1)) (18446744073709551615+1)) s _ _=_
 unfold Zba.S
 rw [hc,Option.bind_some]
 dsimp only
 rw [ne_f rfl,cond_false,Zqb (by omega),Zf,ne_f (by omega),cond_false]
 have h1:=Zfu1 s (n:=(l.length:Int)) (l:=restC l) (by omega) 18446744073709551615 (restC l).length 0 (18446744073709551615+1) (by omega) (by omega) (by omega) hne
 refine Eq.trans h1 ?_
 unfold Zba.S1
 rw [hb,Option.bind_some]
 dsimp only
 have main:∀ (d i m:Nat),d=l.length-i→i≤l.length→d<m→Zba.l2 m (restC l) (nbits l) (l.take i) ((restC (l.take i)).length:Int) (i:Int)=some (l,0):=by
  intro d
  induction d with
  | zero=>
   intro i m hd hi hm
   obtain ⟨m,rfl⟩:∃ j,m=j+1:=⟨m-1,by omega⟩
   have:i=l.length:=by omega
   subst this
   show Zba.S2 _ _ _ _ _ _=_
   unfold Zba.S2
   rw [Zf,Zqd,lt_f (by omega),cond_false,List.take_length]
  | succ d ih=>
   intro i m hd hi hm
   obtain ⟨m,rfl⟩:∃ j,m=j+1:=⟨m-1,by omega⟩
   have hlt:i<l.length:=by omega
   have hnl:i<(nbits l).length:=by rw [Zqd];exact hlt
   have hih:=ih (i+1) m (by omega) (by omega) (by omega)
   have hle2:=Zag (l.take i)
   rw [List.length_take] at hle2
   rw [take_one hlt,Ztq] at hih
   show Zba.S2 (Zba.l2 m) _ _ _ _ _=_
   unfold Zba.S2
   rw [Zf,Zqd,Zf,lt_t (by omega),cond_true,Zu (by omega),cond_true,Zy hnl,Zcz hlt,Zn (a:=(i:Int)) (by omega),Zn (by omega),Zna (by rw [List.length_take];omega)]
   cases hq:isN l[i] with
   | true=>
    have hzz:=hz _ (List.getElem_mem hlt) hq
    rw [hq,if_pos rfl,List.append_nil] at hih
    rw [if_pos rfl,eq_f (by decide),cond_false,cond_true,← hzz]
    exact hih
   | false=>
    rw [hq,if_neg (by decide),List.length_append,List.length_singleton] at hih
    have hr:restC l=restC (l.take i)++l[i] :: restC (l.drop (i+1)):=by
     have e:l=l.take i++l[i] :: l.drop (i+1):=by rw [← List.drop_eq_getElem_cons hlt,List.take_append_drop]
     have h2:restC l=restC (l.take i++l[i] :: l.drop (i+1)):=congrArg restC e
     rw [h2]
     unfold restC
     rw [List.filter_append,List.filter_cons_of_pos (by rw [hq];rfl)]
    have hrl:=congrArg List.length hr
    rw [List.length_append,List.length_cons] at hrl
    have hg:(restC l)[(restC (l.take i)).length]'(by omega)=l[i]:=by
     have:(restC l)[(restC (l.take i)).length]? = some l[i]:=by rw [hr,List.getElem?_append_right (Nat.le_refl _),Nat.sub_self];rfl
     rw [List.getElem?_eq_getElem (by omega)] at this
     exact Option.some.inj this
    rw [if_neg (by decide),eq_t rfl,cond_true,lt_t (by omega),cond_true,Zu (by omega),cond_true,cond_true,Zy (by omega),hg]
    exact hih
 exact main l.length 0 18446744073709551615 (by omega) (by omega) (by omega)
theorem Znz1 (s:ByteArray) (hs:s.size≤65536):Ret (Zvl s) fun r=>r.1.size≤s.size:=by
 unfold Zvl
 rw [Zma]
 refine Zia (fun _=>Zg (Nat.zero_le _)) fun _=>?_
 rw [Zqb (by omega)]
 exact Zpd (by omega) (Zsd (Zmq _ (by have:=Zoh s 0 ((s.size:Int)-4);omega)) (Zue (Zrf (fun _=>Zpd (by omega) (Zg (Zoh _ _ _))) fun _=>Zg (Nat.zero_le _))))
theorem Zhu1 (s:ByteArray) (hs:s.size≤65536):Ret (Zqg s) fun r=>r.2.2.2=true→r.2.1.size≤65536∧r.2.2.1.size≤65536∧0≤r.1.2.2.1∧r.1.2.2.1<256:=by
 unfold Zqg
 refine Zta _ (Znz1 s hs) fun r hr=>Zqc (fun _=>Zg fun h=>by cases h) fun _=>Zia (fun _=>Zg fun h=>by cases h) fun h4=>?_
 have h4:4≤(r.1.size:Int):=h4
 obtain ⟨b0,b1⟩:=Zee r.1 3
 obtain ⟨c0,c1⟩:=Zee r.1 2
 rw [Zgg,Zgg,Zgg,Zgg,Zma,Zqb (by omega),Zn (by omega)]
 have l1:=Zoh r.1 4 (4+byteAt r.1 3)
 have l2:=Zoh r.1 (4+byteAt r.1 3) (r.1.size:Int)
 exact Zya (by omega) (Zia (fun _=>Zg fun h=>by cases h) fun h5=>Zya (by omega) (Zya (by omega) (Zya (by omega) (Zya (by omega) (Zpd (by omega) (Zpd (by omega) (Zg fun _=>⟨by show (cutS r.1 4 (4+byteAt r.1 3)).size≤_;omega,by show (cutS r.1 (4+byteAt r.1 3) (r.1.size:Int)).size≤_;omega,c0,c1⟩)))))))
theorem Zoj2 {l:List Cell} (h64:∀ c∈l,in64 c.2.1) (kind code:Int):∃ r,Zyg l kind code=some r:=by
 by_cases hm:MayB l kind
 ·cases hv:valB (restC l) kind code with
  | none=>exact ⟨_,Ztd1 hm h64 hv⟩
  | some b=>exact ⟨_,Zw6 hm h64 hv⟩
 ·exact ⟨_,Zbq1 hm⟩
def TK (s:ByteArray) (r:List Cell×Int):Prop:=(r.2=5∧r.1=[])∨(r.2=0∧(∀ c∈r.1,in64 c.2.1)∧∃ kind code,Zyg r.1 kind code=some (s,0))
theorem Zw7 (s m:ByteArray) (ok:Bool) {l:List Cell} (hd:Int×Int×Int×Int) (h0:0≤hd.2.2.1) (hn:hd.2.2.1≤65536) (hm:m.size≤65536) (hl:l.length≤65536) (h64:∀ c∈l,in64 c.2.1):Ret (Zda.S1 s m ok l hd) (TK s):=by
 unfold Zda.S1
 refine Zue (Zcf (fun _=>Zta _ (Zgu1 m h0 hn hm hl h64) fun r hr=>?_) fun _=>Zg (.inl ⟨rfl,rfl⟩))
 obtain ⟨u,hu⟩:=Zoj2 hr.2 hd.1 hd.2.1
 refine Zsd hu (Zqc (fun _=>Zg (.inl ⟨rfl,rfl⟩)) fun hu0=>Zue (Zrf (fun hus=>Zg (.inr ⟨rfl,hr.2,hd.1,hd.2.1,?_⟩)) fun _=>Zg (.inl ⟨rfl,rfl⟩)))
 show Zyg r.1 hd.1 hd.2.1=_
 rw [hu]
 obtain ⟨u1,u2⟩:=u
 have hus:u1=s:=hus
 have hu0:u2=0:=hu0
 rw [hus,hu0]
theorem Zld1 (s m:ByteArray) (ok:Bool) (hd:Int×Int×Int×Int) (f:Nat) {l:List Int} (hl:l.length≤65536):∀ (d i n:Nat),d=l.length-i→i≤l.length→d<n→
  Zda.l0 (Zda.t1 (f+1)) n s m ok ((l.take i).map fun x=>((1,x,eB):Cell)) l (i:Int) hd=Zda.S1 s m ok (l.map fun x=>((1,x,eB):Cell)) hd:=by
 intro d
 induction d with
 | zero=>
  intro i n hd hi hn
  obtain ⟨n,rfl⟩:∃ j,n=j+1:=⟨n-1,by omega⟩
  have:i=l.length:=by omega
  subst this
  show Zda.S0 Zda.S1 _ _ _ _ _ _ _ _=_
  unfold Zda.S0
  rw [Zf,lt_f (by omega),cond_false,List.take_length]
 | succ d ih=>
  intro i n hd hi hn
  obtain ⟨n,rfl⟩:∃ j,n=j+1:=⟨n-1,by omega⟩
  have hlt:i<l.length:=by omega
  have hih:=ih (i+1) n (by omega) (by omega) (by omega)
  rw [take_one hlt,List.map_append] at hih
  show Zda.S0 _ (Zda.l0 (Zda.t1 (f+1)) n) _ _ _ _ _ _ _=_
  unfold Zda.S0
  rw [Zf,lt_t (by omega),cond_true,Zu (by omega),cond_true,Zna (by rw [List.length_map,List.length_take];omega),cond_true,Zy hlt,Zn (by omega)]
  exact hih
theorem Zmd1 (s m:ByteArray) (ok:Bool) (hd:Int×Int×Int×Int) (f:Nat) {l:List ByteArray} (hl:l.length≤65536):∀ (d i n:Nat),d=l.length-i→i≤l.length→d<n→
  Zda.l2 (Zda.t1 (f+1)) n s m ok ((l.take i).map fun x=>((2,0,x):Cell)) l (i:Int) hd=Zda.S1 s m ok (l.map fun x=>((2,0,x):Cell)) hd:=by
 intro d
 induction d with
 | zero=>
  intro i n hd hi hn
  obtain ⟨n,rfl⟩:∃ j,n=j+1:=⟨n-1,by omega⟩
  have:i=l.length:=by omega
  subst this
  show Zda.S2 Zda.S1 _ _ _ _ _ _ _ _=_
  unfold Zda.S2
  rw [Zf,lt_f (by omega),cond_false,List.take_length]
 | succ d ih=>
  intro i n hd hi hn
  obtain ⟨n,rfl⟩:∃ j,n=j+1:=⟨n-1,by omega⟩
  have hlt:i<l.length:=by omega
  have hih:=ih (i+1) n (by omega) (by omega) (by omega)
  rw [take_one hlt,List.map_append] at hih
  show Zda.S2 _ (Zda.l2 (Zda.t1 (f+1)) n) _ _ _ _ _ _ _=_
  unfold Zda.S2
  rw [Zf,lt_t (by omega),cond_true,Zu (by omega),cond_true,Zna (by rw [List.length_map,List.length_take];omega),cond_true,Zy hlt,Zn (by omega)]
  exact hih
theorem Ziu1 (s:ByteArray) (hs:s.size≤65536):Ret (Zda s) (TK s):=by
 show Ret (Zda.S (Zda.l0 (Zda.t1 (18446744073709551615+1)) fu) (Zda.l2 (Zda.t1 (18446744073709551615+1)) fu) s) _
 unfold Zda.S
 have no:TK s ([],5):= .inl ⟨rfl,rfl⟩
 refine Zta _ (Zhu1 s hs) fun p hp=>Zue (Zcf (fun hb=>?_) fun _=>Zg no)
 obtain ⟨p1,p2,p3,p4⟩:=hp hb
 refine Zta _ (Zr5 p.2.1 p3 (by omega) p1) fun c hc=>Zqc (fun _=>Zg no) fun hc0=>Zia (fun _=>Zg no) fun _=>?_
 obtain ⟨c1,c2⟩:=hc hc0
 rw [Zqb (by omega)]
 refine Znd (fun _=>Zta _ (Ztg1 p.2.2.1 p.1.2.1 (by omega) (by omega) p2) fun r hr=>?_) fun _=>Zta _ (Zro1 p.2.2.1 p.1.2.1 (by omega) p2) fun r hr=>?_
 ·have hr1:r.1.length≤65536:=hr.1
  have:=Zld1 s p.2.1 r.2 p.1 18446744073709551615 hr1 r.1.length 0 fu (by omega) (by omega) (by unfold fu;omega)
  rw [List.take_zero,List.map_nil] at this
  rw [show (0:Int)=((0:Nat):Int) from rfl,this]
  refine Zw7 s p.2.1 r.2 p.1 p3 (by omega) p1 (by rw [List.length_map];exact hr1) fun x hx=>?_
  obtain ⟨y,hy,rfl⟩:=List.mem_map.1 hx
  exact hr.2 y hy
 ·have:=Zmd1 s p.2.1 r.2 p.1 18446744073709551615 hr r.1.length 0 fu (by omega) (by omega) (by unfold fu;omega)
  rw [List.take_zero,List.map_nil] at this
  rw [show (0:Int)=((0:Nat):Int) from rfl,this]
  refine Zw7 s p.2.1 r.2 p.1 p3 (by omega) p1 (by rw [List.length_map];exact hr) fun x hx=>?_
  obtain ⟨y,hy,rfl⟩:=List.mem_map.1 hx
  exact Zjp
theorem Zju1 {l:List Int} (h:∀ b∈l,0≤b∧b<256) (hl:l.length<100000):Zvl (ofBytes (sealB l))=some (ofBytes l,0):=by
 unfold Zvl
 have hsz:(ofBytes (sealB l)).size=l.length+4:=by rw [Zv,Zbe1]
 have htb:=Zwc (Zce1 h)
 have hcut:cutS (ofBytes (sealB l)) 0 ((l.length:Nat):Int)=ofBytes l:=by
  rw [Zqp,htb]
  unfold sealB
  rw [List.take_left]
 rw [Zma,hsz,lt_f (by omega),cond_false,Zqb (by omega),show ((l.length+4:Nat):Int)-4=(l.length:Int) by omega,Zzb (by omega),cond_true,hcut,Zmq _ (by rw [Zv];omega),Option.bind_some,Zwc h,eqS_t rfl]
 rfl
theorem Zku1 {l:List Cell} {kind code:Int} (hm:MayB l kind) (h64:∀ c∈l,in64 c.2.1) {vb:List Int} (hv:valB (restC l) kind code=some vb):
  Zqg (ofBytes (sealB (blkT l kind code vb)))=some ((kind,code,(l.length:Int),0),ofBytes (maskL l),ofBytes vb,true)∧Zda (ofBytes (sealB (blkT l kind code vb)))=some (l,0):=by
 have hput:=Zw6 hm h64 hv
 obtain ⟨hvr,hvl⟩:=Zqw hm hv
 have hc:=Zps hv
 obtain ⟨h1,h2,h3,h4⟩:=id hm
 have hkr:0≤kind∧kind<256:=by rcases h3 with rfl | rfl <;> omega
 have hml:=Zmn l
 have hrl:=Zag l
 have hz:∀ c∈l,isN c=true→c=(0,0,eB):=fun c hc hn=>by
  have hn0:c.1=0:=of_decide_eq_true (show decide (c.1=0)=true from hn)
  rcases Zf7 (h4 c hc).1 with h | ⟨n,h⟩ | ⟨t,h,_⟩
  ·exact h
  ·rw [h] at hn0;simp at hn0
  ·rw [h] at hn0;simp at hn0
 have hT:=Zsw h2 hkr (show 0≤code∧code<256 by omega) hvr
 have htl:(blkT l kind code vb).length=4+((maskL l).length+vb.length):=by unfold blkT;simp;omega
 have hpart:Zqg (ofBytes (sealB (blkT l kind code vb)))=some ((kind,code,(l.length:Int),0),ofBytes (maskL l),ofBytes vb,true):=by
  unfold Zqg
  rw [Zju1 hT (by omega),Option.bind_some]
  dsimp only
  have hsz:(ofBytes (blkT l kind code vb)).size=4+((maskL l).length+vb.length):=by rw [Zv,htl]
  have htb:Zk (ofBytes (blkT l kind code vb))=blkT l kind code vb:=Zwc hT
  generalize ht:ofBytes (blkT l kind code vb)=t at hsz htb
  have b0:byteAt t 0=kind:=Zdg htb (i:=0) rfl
  have b1:byteAt t 1=code:=Zdg htb (i:=1) rfl
  have b2:byteAt t 2=(l.length:Int):=Zdg htb (i:=2) rfl
  have b3:byteAt t 3=((maskL l).length:Int):=Zdg htb (i:=3) rfl
  have hend:addI .i64 4 ((maskL l).length:Int)=((4+(maskL l).length:Nat):Int):=by rw [Zn (by omega)];omega
  have hdr:(blkT l kind code vb).drop 4=maskL l++vb:=rfl
  have hmask:Zk (cutS t 4 ((4+(maskL l).length:Nat):Int))=maskL l:=by
   have:=Zkr t 4 (4+(maskL l).length)
   rw [show ((4:Nat):Int)=4 from rfl] at this
   rw [this,htb,hdr,Nat.add_sub_cancel_left,List.take_left]
  have hbody:Zk (cutS t ((4+(maskL l).length:Nat):Int) (t.size:Int))=vb:=by
   rw [Zft,htb,← List.drop_drop,hdr,List.drop_left]
  have hmaskS:cutS t 4 ((4+(maskL l).length:Nat):Int)=ofBytes (maskL l):=(Zrd _).symm.trans (congrArg ofBytes hmask)
  have hbodyS:cutS t ((4+(maskL l).length:Nat):Int) (t.size:Int)=ofBytes vb:=(Zrd _).symm.trans (congrArg ofBytes hbody)
  rw [ne_f rfl,cond_false,Zma,lt_f (by omega),cond_false,Zu (by omega),cond_true,b3,b2,b1,b0,Zde (n:=((maskL l).length:Int)) (by omega),Zde (n:=(l.length:Int)) (by omega),Zde (n:=code) (by omega),Zde (n:=kind) (by omega),Zqb (by omega),lt_f (by omega),cond_false,cond_true,
   Zu (by omega),cond_true,Zu (by omega),cond_true,Zu (by omega),cond_true,hend,Zzb (by omega),cond_true,Zzb (by omega),cond_true,hmaskS,hbodyS]
 refine ⟨hpart,?_⟩
 have htm:=Zwc (Zsy l)
 have htv:=Zwc hvr
 show Zda.S (Zda.l0 (Zda.t1 (18446744073709551615+1)) fu) (Zda.l2 (Zda.t1 (18446744073709551615+1)) fu) _=_
 unfold Zda.S
 rw [hpart,Option.bind_some]
 dsimp only
 rw [Bool.not_true,cond_false,(Zqg1 h2 (by omega) htm).2,Option.bind_some]
 dsimp only
 have hsub:subI .i64 (l.length:Int) ((l.length-(restC l).length:Nat):Int)=((restC l).length:Int):=by rw [Zqb (by omega)];omega
 have fin:Zda.S1 (ofBytes (sealB (blkT l kind code vb))) (ofBytes (maskL l)) true (restC l) (kind,code,(l.length:Int),0)=some (l,0):=by
  unfold Zda.S1
  dsimp only
  rw [Bool.not_true,cond_false,Zoo1 h2 (by omega) hz htm,Option.bind_some]
  dsimp only
  rw [hput,Option.bind_some]
  dsimp only
  rw [ne_f rfl,cond_false,eqS_t rfl]
  rfl
 rw [ne_f rfl,cond_false,lt_f (by omega),cond_false,hsub]
 unfold valB at hv
 rcases h3 with rfl | rfl
 ·rw [if_pos rfl] at hv
  have h5:=Zsf1 (l:=numsC (restC l)) (by rw [List.length_map];omega) (fun x hx=>by
   obtain ⟨c,hc,rfl⟩:=List.mem_map.1 hx
   unfold restC at hc
   exact h64 c (List.mem_filter.1 hc).1) hv htv
  rw [List.length_map] at h5
  rw [eq_t rfl,cond_true,h5,Option.bind_some]
  dsimp only
  have h6:=Zld1 (ofBytes (sealB (blkT l 1 code vb))) (ofBytes (maskL l)) true (1,code,(l.length:Int),0) 18446744073709551615 (l:=numsC (restC l)) (by rw [List.length_map];omega) (numsC (restC l)).length 0 fu (by omega) (by omega) (by rw [List.length_map];unfold fu;omega)
  rw [List.take_zero,List.map_nil] at h6
  refine Eq.trans h6 ?_
  rw [List.map_map]
  have h7:(restC l).map ((fun x=>((1,x,eB):Cell)) ∘ fun c=>c.2.1)=restC l:=by
   conv=>rhs;rw [← List.map_id (restC l)]
   apply List.map_congr_left
   intro c hc
   rcases Zoy hm c hc with ⟨_,n,rfl⟩ | ⟨h,_⟩
   ·rfl
   ·omega
  rw [h7]
  exact fin
 ·rw [if_neg (by omega)] at hv
  have h5:=Zug1 (l:=txtsC (restC l)) (by rw [List.length_map];omega) (Zlp hm) hv htv
  rw [List.length_map] at h5
  rw [eq_f (by omega),cond_false,h5,Option.bind_some]
  dsimp only
  have h6:=Zmd1 (ofBytes (sealB (blkT l 2 code vb))) (ofBytes (maskL l)) true (2,code,(l.length:Int),0) 18446744073709551615 (l:=txtsC (restC l)) (by rw [List.length_map];omega) (txtsC (restC l)).length 0 fu (by omega) (by omega) (by rw [List.length_map];unfold fu;omega)
  rw [List.take_zero,List.map_nil] at h6
  refine Eq.trans h6 ?_
  rw [List.map_map]
  have h7:(restC l).map ((fun x=>((2,0,x):Cell)) ∘ fun c=>c.2.2)=restC l:=by
   conv=>rhs;rw [← List.map_id (restC l)]
   apply List.map_congr_left
   intro c hc
   rcases Zoy hm c hc with ⟨h,_⟩ | ⟨_,t,rfl,_⟩
   ·omega
   ·rfl
  rw [h7]
  exact fin
def Blk (s:ByteArray):Prop:=∃ l kind code b,MayB l kind∧(∀ c∈l,in64 c.2.1)∧valB (restC l) kind code=some b∧s=ofBytes (sealB (blkT l kind code b))
theorem Zhc3 {s:ByteArray} {l:List Cell} {kind code:Int} (hl:l.length≤65536) (h64:∀ c∈l,in64 c.2.1) (h:Zhg l kind code=some (s,0)):Blk s:=by
 by_cases hm:MayB l kind
 ·cases hv:valB (restC l) kind code with
  | none=>rw [Zdh1 hm hv] at h;cases h
  | some b=>
   rw [Zdq1 hm hv] at h
   exact ⟨l,kind,code,b,hm,h64,hv,(congrArg Prod.fst (Option.some.inj h)).symm⟩
 ·rw [Zuy (by omega) hm] at h
  cases h
theorem Zoz2 {s:ByteArray} {l:List Cell} {kind code:Int} (h64:∀ c∈l,in64 c.2.1) (h:Zyg l kind code=some (s,0)):Blk s:=by
 by_cases hm:MayB l kind
 ·cases hv:valB (restC l) kind code with
  | none=>rw [Ztd1 hm h64 hv] at h;cases h
  | some b=>
   rw [Zw6 hm h64 hv] at h
   exact ⟨l,kind,code,b,hm,h64,hv,(congrArg Prod.fst (Option.some.inj h)).symm⟩
 ·rw [Zbq1 hm] at h
  cases h
theorem Zwb1 (s:ByteArray):Zkn s=some true:=by
 unfold Zkn
 rw [Zma,Zzz2]
 by_cases hbig:(1024:Int)<(s.size:Int)
 ·rw [lt_t hbig]
  rfl
 ·rw [lt_f (by omega),cond_false]
  by_cases hblk:Blk s
  ·obtain ⟨l,kind,code,b,hm,h64,hv,rfl⟩:=hblk
   obtain ⟨k1,k2,k3⟩:=Zfh1 (Zyj2 hm h64 hv)
   obtain ⟨p1,p2⟩:=Zku1 hm h64 hv
   have hl:=hm.2.1
   have hl0:=hm.1
   have hcnt:=(Zqg1 hl (by omega) (Zwc (Zsy l))).2
   have q1:Zwl (ofBytes (sealB (blkT l kind code b)))=some ((kind,code,(l.length:Int),((l.length-(restC l).length:Nat):Int)),0):=by
    unfold Zwl
    rw [p2,Option.bind_some]
    dsimp only
    rw [ne_f rfl,cond_false,p1,Option.bind_some]
    dsimp only
    rw [hcnt]
    rfl
   have q2:Zyl (ofBytes (sealB (blkT l kind code b)))=some (ofBytes b,ofBytes (maskL l),0):=by
    unfold Zyl
    rw [p2,Option.bind_some]
    dsimp only
    rw [ne_f rfl,cond_false,p1]
    rfl
   rw [k1,p2,k2,q1,k3,q2,Option.bind_some,Option.bind_some,Option.bind_some,Option.bind_some,Option.bind_some,Option.bind_some,Zqs l (by omega),Option.bind_some]
   dsimp only
   rw [eq_t rfl,eq_t rfl,eq_t rfl,eq_t rfl,eq_t rfl,eqS_t rfl,eqS_t rfl]
   rfl
  ·obtain ⟨r,r1,r2⟩:=Ztj2 s (by omega)
   obtain ⟨⟨z,e⟩,t1,t2⟩:=Ziu1 s (by omega)
   have hr:r.2=false:=by
    cases hq:r.2 with
    | false=>rfl
    | true=>
     obtain ⟨l,kind,code,h,hl,h64⟩:=r2 hq
     exact absurd (Zhc3 hl h64 h) hblk
   have ht:z=[]∧e=5:=by
    rcases t2 with ⟨h1,h2⟩ | ⟨_,h64,kind,code,h⟩
    ·exact ⟨h2,h1⟩
    ·exact absurd (Zoz2 h64 h) hblk
   obtain ⟨rfl,rfl⟩:=ht
   have k1:Zvj s=some ([],5):=by unfold Zvj;rw [r1,Option.bind_some,hr];rfl
   have k2:Zwj s=some ((0,0,0,0),5):=by unfold Zwj;rw [r1,Option.bind_some,hr];rfl
   have k3:Zxl s=some (eB,eB,5):=by unfold Zxl;rw [r1,Option.bind_some,hr];rfl
   have q1:Zwl s=some ((0,0,0,0),5):=by unfold Zwl;rw [t1,Option.bind_some];rfl
   have q2:Zyl s=some (eB,eB,5):=by unfold Zyl;rw [t1,Option.bind_some];rfl
   rw [k1,t1,k2,q1,k3,q2,Option.bind_some,Option.bind_some,Option.bind_some,Option.bind_some,Option.bind_some,Option.bind_some,Zqs [] (by decide),Option.bind_some]
   dsimp only
   rw [eqS_t rfl]
   rfl
end Go.AM.Pure
end
