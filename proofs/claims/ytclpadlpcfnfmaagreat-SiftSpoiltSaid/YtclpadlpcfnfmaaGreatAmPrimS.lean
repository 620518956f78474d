import Derived.Test.YtclpadlpcfnfmaaGreatAmPrim
import Derived.Test.YtclpadlpcfnfmaaGreatAmPrimW
import Derived.Sort.Grow
import Derived.Sort.EncStr
/- slices.Clone, Sort and Compact, out of what is known of their calls. -/
namespace Go.AM
open Go.RowKit (Below)
open Go.Sort (Holds putRow grow)
set_option linter.unusedSectionVars false
variable [Lay]
section
variable {P : Program} {f : FuncId} {w w' : World}
theorem tx {β:Type} [Inhabited β] [DecidableEq β] (l:List β):(Lib.compact l).length<=l.length:=by
 unfold Lib.compact Lib.compactUpTo;rw [Av];exact Nat.le_trans (List.length_filter_le _ _) (by rw [List.length_range];exact Au _)
theorem Vn {e:Ty} (h:Lz e=true):e.sz=1:=by cases e <;> first | rfl | cases h
theorem Znh {ok:Nat->Nat->Prop} {e:Ty} (h:Lz e=true) {l:List e.D} {cur:Array Value} (hr:K8 ok w e l cur) {i:Nat} {x:e.D} (hi:l[i]? = some x):cur[i]? = some (sv e x):=by
 obtain ⟨ys,hy,CU⟩:=hr i x hi;have h1:=CU 0 (sv e x);rw [Vn h,Nat.mul_one,Nat.add_zero] at h1;refine h1 ?_;cases e with
 | int k=>simp only [RepD] at hy;subst hy;rfl
 | bool=>simp only [RepD] at hy;subst hy;rfl
 | str=>simp only [RepD] at hy;subst hy;rfl
 | _=>cases h
theorem Zoh {ok:Nat->Nat->Prop} {e:Ty} (h:Lz e=true) {l:List e.D} {cur:Array Value} (hr:∀ (i:Nat) (x:e.D),l[i]? = some x->cur[i]? = some (sv e x)):K8 ok w e l cur:=by
 intro i x hi;refine ⟨[sv e x],(oS h x).1,λ j u hj=>?_⟩;have TW:j=0:=by have:=(List.getElem?_eq_some_iff.1 hj).1;simp at this;exact this
 subst TW;cases hj;rw [Vn h,Nat.mul_one,Nat.add_zero];exact hr i x hi
variable {α : Type} [Inhabited α] {enc : α -> Value} {e : Ty} {fr : e.D -> α} {to : α -> e.D}
theorem holds_of {ok:Nat->Nat->Prop} (Gt:Lz e=true) (Py:∀ x,sv e x=enc (fr x)) {b:Nat} {l:List e.D} {cur:Array Value} {T:TypeId} (hh:w.heap[b]? = some (.cells cur T (0,0))) (hr:K8 ok w e l cur):
  Holds enc w b 0 (l.map fr).toArray:=by
 intro j hj;rw [List.size_toArray,Av] at hj;have hi:l[j]? = some l[j]:=AD hj;have:=Znh Gt hr hi;refine ⟨?_,by simp [World.frozen?,hh]⟩;rw [getElem!_pos _ j (by simpa using hj)];simp only [World.cell?,hh,AF,List.getElem_toArray,List.getElem_map];rw [this,Py];rfl
theorem lY (Gt:Lz e=true) (T3:∀ a,enc a=sv e (to a)) {b n:Nat} {d:List α} {os:Array Obj} {cur:Array Value} {T:TypeId} (hh:w.heap[b]? = some (.cells cur T (0,0))) (hd:d.length<=cur.size)
  (hw:w'=grow (putRow enc (Sort.ahead w n) b 0 d.toArray) os):
  BelowX ⟨w.heap.size,[b],[]⟩ w w'/\∃ cur',w'.heap[b]? = some (.cells cur' T (0,0))/\cur'.size=cur.size/\∀ ok,K8 ok w' e (d.map to) cur':=by
 have hb:b<w.heap.size:=(Array.getElem?_eq_some_iff.1 hh).1;have BL:(putRow enc (Sort.ahead w n) b 0 d.toArray).heap.size=w.heap.size:=by rw [Sort.size_putRow];rfl
 have Vq:∀ k,k<w.heap.size->w'.heap[k]? = (putRow enc (Sort.ahead w n) b 0 d.toArray).heap[k]?:=λ k hk=>by
  rw [hw];unfold Sort.grow;dsimp only;rw [Array.getElem?_append_left (by rw [BL];exact hk)]
 have Kb:w'.heap[b]? = some (.cells (Sort.putCells enc 0 d.toArray cur) T (0,0)):=by
  rw [Vq b hb];unfold putRow Sort.mapBlock;simp only [Array.getElem?_modify,if_true];rw [show (Sort.ahead w n).heap[b]? = w.heap[b]? from rfl,hh];rfl
 have CM:(Sort.putCells enc 0 d.toArray cur).size=cur.size:=by unfold Sort.putCells;rw [Array.size_mapIdx]
 refine ⟨⟨?_,?_,?_,?_,λ k hk hn _=>?_,λ k u cur T y hm=>(nomatch hm),λ k Tv T2 y hm AY h2=>?_⟩,_,Kb,CM,λ ok=>Zoh Gt λ i x hi=>?_⟩
 ·rw [hw];rfl
 ·rw [hw];rfl
 ·rw [hw];rfl
 ·rw [hw,Sort.size_grow,BL];exact Nat.le_add_right _ _
 ·rw [Vq k hk];unfold putRow Sort.mapBlock;simp only [Array.getElem?_modify];rw [if_neg λ e=>hn (by rw [<- e];exact List.mem_singleton.2 rfl)];rfl
 ·have T1:k=b:=List.mem_singleton.1 hm;subst T1;rw [hh] at h2;cases h2;exact ⟨_,_,Kb,CM⟩
 ·rw [List.getElem?_map] at hi;cases hq:d[i]? with
  | none=>rw [hq] at hi;cases hi
  | some a=>
   rw [hq] at hi;cases hi;have AY:=(List.getElem?_eq_some_iff.1 hq).1;unfold Sort.putCells;rw [Array.getElem?_mapIdx,Array.getElem?_eq_getElem (show i<cur.size by omega)];simp only [Option.map_some,Nat.zero_le,true_and,AF,List.size_toArray,Nat.sub_zero];rw [if_pos AY,getElem!_pos _ i (by simpa using AY),List.getElem_toArray,<- T3];rw [AD AY] at hq;rw [Option.some.inj hq]
theorem y8 {ok:Nat->Nat->Prop} {l:List AV} {vs:List Value} {bs:List Nat} {rws:List (Option (Nat×Nat))} {x:En [PK.ioa e]} (h:FQ [PK.ioa e] l=some x) (ha:L3 ok w l vs bs rws):
  ∃ b cap cur T,bs=[b]/\rws=[]/\vs=[.slice (some ⟨b,0,none⟩) (List.length (α:=e.D) x.1) cap]/\w.heap[b]? = some (.cells cur T (0,0))/\cur.size=cap*e.sz/\List.length (α:=e.D) x.1<=cap/\cap<=maxLen/\
   0<List.length (α:=e.D) x.1/\K8 ok w e x.1 cur:=by
 cases l with
 | nil=>cases h
 | cons a l=>
  unfold FQ at h;split at h
  ·rename_i y hy;split at h
   ·rename_i z hz;cases h;cases l with
    | cons _ _=>cases hz
    | nil=>
     have:=jK hy;subst this;cases vs with
     | nil=>exact ha.elim
     | cons v vs=>
      obtain ⟨r,s,⟨b,cap,cur,T,h1,h2,h3,h4,h5,h6,h7,h8,h9⟩,hr⟩:=ha;cases vs with
      | cons _ _=>exact hr.elim
      | nil=>
       obtain ⟨rfl,rfl⟩:=hr;exact ⟨b,cap,cur,T,h1,h2,by rw [h3],h4,h5,h6,h7,h8,h9⟩
   ·cases h
  ·cases h
theorem yG (Gt:Lz e=true) (Py:∀ x,sv e x=enc (fr x)) (T3:∀ a,enc a=sv e (to a)) {F:List e.D->Option (List e.D)}
  (h:∀ x y,F x=some y->∀ w b cap,Holds enc w b 0 (x.map fr).toArray->b<w.heap.size->Calls P f #[.slice (some ⟨b,0,none⟩) x.length cap] w λ r w'=>r = .returned (.tuple #[])/\∃ n os,∃ d:List α,w'=grow (putRow enc (Sort.ahead w n) b 0 d.toArray) os/\d.length=x.length/\y=d.map to):
  Bh P f (Hm 0 [.ioa e] [(.sl e,[])] λ x=>F x.1):=by
 intro l r y hs hm ok0 w vs bs rws _ _ _ Ey _ C7;unfold Hm at hs;split at hs
 ·rename_i x hx;cases hs;obtain ⟨b,cap,cur,T,rfl,rfl,rfl,hh,CM,hle,Ds,IW,Cj⟩:=y8 hx C7;rw [Vn Gt,Nat.mul_one] at CM;refine (h x.1 y hm w b cap (holds_of Gt Py hh Cj) (Ey b (List.mem_singleton.2 rfl))).mono ?_;rintro r w' ⟨rfl,n,os,d,hw,hd,hy⟩;obtain ⟨hB,cur',h1,h2,h3⟩:=lY Gt T3 hh Ad hw;refine ⟨_,rfl,hB,λ _=>none,λ j b u hj=>(nomatch hj),λ j k b u u' hj=>(nomatch hj),?_,⟨[],rfl,trivial⟩⟩;show MP _ _ _ _ [.arr e y false] [b];subst hy;exact ⟨⟨rfl,cur',T,_,h1, .inl rfl,by rw [Vn Gt,Av];omega,by rw [Av];omega,h3 _⟩,trivial⟩
 ·cases hs
theorem yI (Gt:Lz e=true) (Py:∀ x,sv e x=enc (fr x)) (T3:∀ a,enc a=sv e (to a)) {F:List e.D->Option (Int×List e.D)}
  (h:∀ x y,F x=some y->∀ w b cap,Holds enc w b 0 (x.map fr).toArray->x.length<=cap->Calls P f #[.slice (some ⟨b,0,none⟩) x.length cap] w λ r w'=>∃ m,∃ d:List α,m<=x.length/\r = .returned (.slice (some ⟨b,0,none⟩) m cap)/\(∃ n,w'=putRow enc (Sort.ahead w n) b 0 d.toArray)/\d.length=x.length/\y=((m:Int),d.map to)):
  Bh P f (Qd 0 [.ioa e] [(.int .i64,[]),(.sl e,[])] λ x=>F x.1):=by
 intro l r y hs hm ok0 w vs bs rws _ _ _ Ey _ C7;unfold Qd at hs;split at hs
 ·rename_i x hx;cases hs;obtain ⟨b,cap,cur,T,rfl,rfl,rfl,hh,CM,hle,Ds,IW,Cj⟩:=y8 hx C7;rw [Vn Gt,Nat.mul_one] at CM;refine (h x.1 y hm w b cap (holds_of Gt Py hh Cj) hle).mono ?_;rintro r w' ⟨m,d,Zyq,rfl,⟨n,hw⟩,hd,hy⟩;obtain ⟨hB,cur',h1,h2,h3⟩:=lY (d:=d) (os:=#[]) (n:=n) Gt T3 hh Ad (hw.trans (Sort.grow_empty _).symm);subst hy;refine ⟨_,rfl,hB,λ _=>none,λ j b u hj=>(nomatch hj),λ j k b u u' hj=>(nomatch hj),?_,?_⟩
  ·show MP _ _ _ _ [.arr e (d.map to) false] [b];exact ⟨⟨rfl,cur',T,_,h1, .inl rfl,by rw [Vn Gt,Av];omega,by rw [Av];omega,h3 _⟩,trivial⟩
  ·show Yh _ _ _ _ _ _ _ _ (.slp 0 (Int.toNat (m:Int)));rw [Int.toNat_natCast];refine ⟨b,cap,e,d.map to,false,some ⟨b,0,none⟩,rfl,rfl,?_,?_,Ds,λ _=>rfl,?_,rfl⟩
   ·rw [Av,hd];exact Zyq
   ·exact Nat.le_trans Zyq hle
   ·intro a h;cases h;rfl
 ·cases hs
def Xh (e:Ty) (F:List e.D->Option (List e.D)):Spec:=λ l=>
 match FQ [.val (.sl e)] l with
 | some a=>some ⟨List e.D,F a.1,λ x=> .bxv e x,λ _=>[]⟩
 | none=>none
theorem jo {e:Ty} (Jg:IP e=true) {ET:TypeId} {by_:Nat} (Ii:0<by_)
  (h:∀ (b off n c:Nat) (news:List Value) (w:World),news.length=n*e.sz->n<=maxLen->n*by_<=140737488355328->(∀ j u,news[j]? = some u->w.cell? ⟨b,off+j,none⟩=some u)->(∀ u∈news,u.oneCell'=true)->
   Calls P f #[.slice (some ⟨b,off,none⟩) n c] w λ r w'=>∃ v',r = .returned v'/\w'.ownsRow w.heap.size ET e.sz v' n news/\v'≠ .slice none 0 0/\Below w.heap.size w w'):
  Bh P f (Xh e (Lp by_)):=by
 intro l r y hs hm ok0 w vs bs rws _ hk0 _ Ey _ C7;unfold Xh at hs;split at hs
 ·rename_i x hx;cases hs;have hm:Lp by_ x.1=some y:=hm;unfold Lp at hm;cases hb:(decide (0<List.length (α:=e.D) x.1) && B1 (List.length (α:=e.D) x.1) by_) with
  | false=>rw [hb] at hm;cases hm
  | true=>
   rw [hb] at hm;have hm:=Option.some.inj hm;rw [Bool.and_eq_true] at hb;have IW:0<List.length (α:=e.D) x.1:=Az hb.1;have Gb:List.length (α:=e.D) x.1*by_<=140737488355328:=Az hb.2;have Qv:∃ av v,l=[av]/\vs=[v]/\av.as (.sl e)=some x.1/\O3 ok0 w av v/\bs=[]/\rws=[]:=by
    cases l with
    | nil=>cases hx
    | cons a l=>
     unfold FQ at hx;split at hx
     ·rename_i y' hy;split at hx
      ·rename_i z hz;cases hx;cases l with
       | cons _ _=>cases hz
       | nil=>
        cases vs with
        | nil=>exact C7.elim
        | cons v vs=>
         obtain ⟨r,s,h1,hr⟩:=C7;obtain ⟨h2,rfl,rfl⟩:=WA (W2 rfl hy) h1;cases vs with
         | cons _ _=>exact hr.elim
         | nil=>
          obtain ⟨rfl,rfl⟩:=hr;exact ⟨a,v,rfl,rfl,hy,h2,rfl,rfl⟩
      ·cases hx
     ·cases hx
   obtain ⟨av,v,rfl,rfl,has,FL,rfl,rfl⟩:=Qv;subst hm;cases av with
   | dat t x' gs=>
    obtain ⟨cs,hr,rfl⟩:=FL;have qS:=hr.cast has;obtain ⟨et,_⟩:=F6 has;subst et;obtain ⟨p,n,cap,rfl,DG,hn,Ds,hc⟩:=qS;obtain ⟨A,hA,Mr,_⟩:=hc 0 _ (AD IW);subst hA
    obtain ⟨news,Fg,D0,Qv⟩:=Ue (ok:=ok0) (w:=w) (e:=e) (c:=λ k=>w.cell? ⟨A.block,k,none⟩) (l:=x.1) (base:=A.off) (λ i x hi=>by
     obtain ⟨A',ED,_,ys,hy,CU⟩:=hc i x hi;cases ED
     exact ⟨ys,hy,λ j u hj=>(CU j u hj).2⟩)
    obtain ⟨Ab,Ao,As⟩:=A;dsimp only at Mr D0;subst Mr;refine (h Ab Ao n cap news w (by rw [Fg.1,DG]) Ad (by rw [<- DG];exact Gb) D0 Qv).mono ?_;rintro r w' ⟨v',rfl,⟨Hs,E2⟩,Cg,D9⟩;rcases E2 with ⟨rfl,_⟩ | ⟨g,Dr,cur,rfl,hg,hh,hle,pT,CM,Fw⟩
    ·exact absurd rfl Cg
    ·refine ⟨_,rfl,BelowX.MD D9,λ _=>none,λ j b u hj=>(nomatch hj),λ j k b u u' hj=>(nomatch hj),trivial,?_⟩;refine ⟨rfl,rfl,Jg,g,Dr,cur,ET,hg,(Array.getElem?_eq_some_iff.1 hh).1,hh,CM,by rw [DG];exact hle,pT,by rw [DG],?_⟩;refine jv (ok:=ok0) (w:=w) Jg ?_;intro i z hi;obtain ⟨ys,EV,CU⟩:=Fg.2 i z hi;refine ⟨ys,EV,λ j u hj=>?_⟩;have h3:=CU j u hj;rw [<- Fw,AQ] at h3;split at h3
     ·simpa using h3
     ·cases h3
   | _=>first | cases has | exact FL.elim
 ·cases hs
end
end Go.AM
