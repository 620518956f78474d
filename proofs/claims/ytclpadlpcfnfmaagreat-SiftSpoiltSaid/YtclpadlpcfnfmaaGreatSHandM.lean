import Derived.Test.YtclpadlpcfnfmaaGreatSHandG
import Derived.Sort.QuietIn
section
/- sift.Gather walked by hand. -/
namespace Go.Proofs.YtclpadlpcfnfmaaGreat.Am
open Go.Proofs.Tryz
open Go.AM Go.AM.Pure Go.RowKit Go.Shelf Go.Lib
open Go.Proofs
attribute [local go_sem] Oper.semAt_some
set_option maxRecDepth 100000
def L9 (c:Int×(Int×ByteArray)):List Value:=[.int .i64 c.1, .int .i64 c.2.1, .string c.2.2]
def KU (l:List (Int×(Int×ByteArray))):List Value:=l.flatMap L9
theorem Yt6:(prog.info? 45).map (λ i=>(i.zero,i.size,i.bytes))=some (some (.agg #[.int .i64 0, .int .i64 0, .string ⟨#[]⟩]),3,32):=by kernel_rfl
theorem Zyt (l:List (Int×(Int×ByteArray))):(KU l).length=l.length*3:=by
 induction l with
 | nil=>rfl
 | cons a l ih=>simp [KU,L9] at ih ⊢;omega
theorem Zzt (l:List (Int×(Int×ByteArray))) (c:Int×(Int×ByteArray)):KU (l++[c])=KU l++L9 c:=by simp [KU]
theorem Zy4 (c:Int×(Int×ByteArray)):∀ u∈L9 c,u.oneCell'=true:=by
 intro u hu;simp [L9] at hu;rcases hu with rfl | rfl | rfl <;> rfl
theorem Ypg {w:World} {b:Nat} {c:Int×(Int×ByteArray)} {T:TypeId} {y:Nat×Nat} (h:w.heap[b]? = some (.cells #[.int .i64 c.1, .int .i64 c.2.1, .string c.2.2] T y)):∀ (j:Nat) (u:Value),(L9 c)[j]? = some u->w.cell? ((⟨b,0,none⟩:Addr).add j)=some u:=by
 intro j u hj;rw [Addr.add_lit,AF,cell_of_row w b j _ T y h,<- hj];simp [L9]
theorem Zo0 {W w1:World} {n0 B t e size k:Nat} {v v':Value} {xs:List Value} {tmp:Obj} (hv:Boxed W B t v) (ht:t≠67) (Cj:W.ownsRow n0 e size v k xs) (he:e≠67) (MJ:(W.alloc tmp).grownBy w1 v.ownBlock):
  Xl W (w1.setCell ⟨B,0,none⟩ v'):=by
 intro i cur y hi;have AY:=(Array.getElem?_eq_some_iff.1 hi).1;have hB:i≠B:=by
  rintro rfl;have:=(show W.heap[i]? = _ from hv).symm.trans hi;cases this;exact ht rfl
 have Cg:some i≠v.ownBlock:=by
  rcases Cj.2 with ⟨rfl,_⟩ | ⟨g,cap,cr,rfl,_,T5,_⟩
  ·simp [Value.ownBlock]
  ·intro e';have:i=g:=by simpa [Value.ownBlock] using e'
   subst this;rw [T5] at hi;cases hi;exact he rfl
 have h1:=(MJ.block i Ai Cg).trans ((Below.heap_alloc W tmp i AY).trans hi);exact (Below.heap_setCell _ _ _ i hB).trans h1
theorem Xle {n₀:Nat} {w:World} (hn:n₀<=w.heap.size):∀ (W:World) (l:Nat) (o o':Obj),w.heap.size<=l->W.heap[l]? = some o->o.isCells=false->o.isWalk=false->PE n₀ W (W.putObj l o'):=by
 intro W l o o' hl ho hc hw;refine ⟨belowK_b (w:=w) hn W l o o' hl ho hc hw,λ i cur y hi=>?_⟩;have:i≠l:=by
  rintro rfl;rw [hi] at ho;cases ho;cases hc
 exact (World.putObj_heap_other this).trans hi
theorem Yog {ok:Nat->Nat->Prop} {w:World} {l:List (Int×(Int×ByteArray))} {a:Option Addr} {n c:Nat} (h:RepD ok w (.sl RL) l [.slice a n c]) {i:Nat} (hi:i<l.length):
  n=l.length/\n<=c/\c<=maxLen/\∃ b off,a=some ⟨b,off,none⟩/\ok b (off+i*3)/\w.cell? ⟨b,off+i*3,none⟩=some (.int .i64 l[i].1)/\w.cell? ⟨b,off+i*3+1,none⟩=some (.int .i64 l[i].2.1)/\w.cell? ⟨b,off+i*3+2,none⟩=some (.string l[i].2.2):=by
 obtain ⟨a',n',c',hv,DG,hn,Ds,hc⟩:=h;cases hv;obtain ⟨A,hA,hs,ys,⟨c1,c2,rfl,h1,c3,c4,rfl,h2,h3⟩,CU⟩:=hc i l[i] (AD hi);simp only [RepD] at h1 h2 h3;subst h1;subst h2;subst h3;obtain ⟨Ab,Ao,As⟩:=A;dsimp only at hs;subst hs;subst hA;exact ⟨DG.symm,hn,Ds,Ab,Ao,rfl,(CU 0 _ rfl).1,(CU 0 _ rfl).2,(CU 1 _ rfl).2,(CU 2 _ rfl).2⟩
abbrev pick (all:List (Int×(Int×ByteArray))) (ps:List Int):List (Int×(Int×ByteArray)):=ps.map λ at_=>nth all at_ (0,(0,eB))
def Zjo (w:World) (all:List (Int×(Int×ByteArray))) (ps:List Int) (e:Ending) (w':World):Prop:=
 ∃ v,e = .returned (.tuple #[v, .int .i64 0])/\w'.ownsRow w.heap.size 45 3 v ps.length (KU (pick all ps))/\Below w.heap.size w w'
end Go.Proofs.YtclpadlpcfnfmaaGreat.Am
end

section
/- sift.Gather walked by hand: the walk. -/
namespace Go.Proofs.YtclpadlpcfnfmaaGreat.Am
open Go.Proofs.Tryz
open Go.AM Go.AM.Pure Go.RowKit Go.Shelf Go.Lib
open Go.Proofs
attribute [local go_sem] Oper.semAt_some
set_option maxRecDepth 100000
theorem Zzq (w:World) (v0 v1 v2 v3:Value) (T:TypeId):∀ {w2:World},Below (w.alloc (.cells #[v0,v1,v2,v3] T)).heap.size (w.alloc (.cells #[v0,v1,v2,v3] T)) w2->
  w2.cell? ⟨w.heap.size,0,none⟩=some v0/\w2.cell? ⟨w.heap.size,1,none⟩=some v1/\w2.cell? ⟨w.heap.size,2,none⟩=some v2/\w2.cell? ⟨w.heap.size,3,none⟩=some v3:=by
 intro w2 hb;have h:=(hb.block w.heap.size Ah).trans (heap_alloc_new w (.cells #[v0,v1,v2,v3] T));refine ⟨?_,?_,?_,?_⟩ <;> (rw [cell_of_row w2 _ _ _ _ _ h];rfl)
structure GG (w w2:World) (v0 v1 v2 v3 v6:Value) (W:World):Prop where
 below:Below w.heap.size w W
 below2:Below w2.heap.size w2 W
 x0:W.cell? ⟨w.heap.size,0,none⟩=some v0
 x1:W.cell? ⟨w.heap.size,1,none⟩=some v1
 x2:W.cell? ⟨w.heap.size,2,none⟩=some v2
 x3:W.cell? ⟨w.heap.size,3,none⟩=some v3
 x6:W.cell? ⟨w2.heap.size,0,none⟩=some v6
 l:w.heap.size<W.heap.size
 l6:w2.heap.size<W.heap.size
theorem GG.step {w w2:World} {v0 v1 v2 v3 v6:Value} {W W':World} (h:GG w w2 v0 v1 v2 v3 v6 W) (hb:Below W.heap.size W W'):GG w w2 v0 v1 v2 v3 v6 W':=
 ⟨h.below.trans (hb.mono h.below.size),h.below2.trans (hb.mono h.below2.size),(hb.cell (p:=⟨w.heap.size,0,none⟩) h.l).trans h.x0,(hb.cell (p:=⟨w.heap.size,1,none⟩) h.l).trans h.x1,(hb.cell (p:=⟨w.heap.size,2,none⟩) h.l).trans h.x2,(hb.cell (p:=⟨w.heap.size,3,none⟩) h.l).trans h.x3,
  (hb.cell (p:=⟨w2.heap.size,0,none⟩) h.l6).trans h.x6,Nat.lt_of_lt_of_le h.l hb.size,Nat.lt_of_lt_of_le h.l6 hb.size⟩
theorem O9.below {ok0:Nat->Nat->Prop} {w W:World} {x:Int×(List (Int×Int)×(List Int×List Int))} {V1 V2 V3:Value} (h:O9 ok0 w x V1 V2 V3) (B3:∀ b o,ok0 b o->b<w.heap.size) (hb:Below w.heap.size w W):O9 ok0 W x V1 V2 V3:=
 ⟨PW h.1 B3 hb,PW h.2.1 B3 hb,PW h.2.2 B3 hb⟩
theorem Ytz {c:Prop} [Decidable c] {p q:Prop} (hc:c) (h:p):if c then p else q:=by rw [if_pos hc];exact h
theorem Ys6 {all:List (Int×(Int×ByteArray))} {k:Nat} (hk:k<all.length):nth all (k:Int) (0,(0,eB))=all[k]:=by
 show all.getD k _=_;rw [AK,AD hk];rfl
theorem Yng {F:Fence} {n:Nat} {P:Program} {o:Oper} {a:Act} {K:Act->World->Prop} {Q:Exit->Act->World->Prop} {W:World} {s x:Operand} {t tb e:TypeId} {i:TypeInfo} {z:Value} {size bytes n₀ B k:Nat} {v:Value} {xs news:List Value} {tmp:Obj}
  (MZ:o.op=Op.call { callee:=Callee.builtin Builtin.append,args:=#[s,x],argTypes:=#[t,t] })
  (h1:P.underlying t=some (.slice e)) (h2:P.info? e=some i) (h3:i.zero=some z) (h4:i.size=size) (h5:i.bytes=bytes) (h6:z.cells.size=size) (h7:0<size)
  (hs:a.eval s=v) (hx:a.eval x = .slice (some ⟨W.heap.size,0,none⟩) 1 1) (hv:Boxed W B tb v) (hte:tb≠e) (ht6:tb≠67) (he6:e≠67) (Cj:W.ownsRow n₀ e size v k xs) (hn₀:n₀<=W.heap.size) (hB:n₀<=B)
  (hn:news.length=1*size) (hc:∀ j u,news[j]? = some u->(W.alloc tmp).drew.cell? ((⟨W.heap.size,0,none⟩:Addr).add j)=some u) (h1c:∀ u∈news,u.oneCell'=true) (b1:k+1<=maxLen) (b2:(k+1)*bytes<=140737488355328)
  (hK:∀ g' Dr w1,w1.cell? ⟨B,0,none⟩=some v->w1.frozen? ⟨B,0,none⟩=false->Boxed (w1.setCell ⟨B,0,none⟩ (.slice (some ⟨g',0,none⟩) (k+1) Dr)) B tb (.slice (some ⟨g',0,none⟩) (k+1) Dr)->
   (w1.setCell ⟨B,0,none⟩ (.slice (some ⟨g',0,none⟩) (k+1) Dr)).ownsRow n₀ e size (.slice (some ⟨g',0,none⟩) (k+1) Dr) (k+1) (xs++news)->KeepsOthers W (w1.setCell ⟨B,0,none⟩ (.slice (some ⟨g',0,none⟩) (k+1) Dr))->
   Below n₀ W (w1.setCell ⟨B,0,none⟩ (.slice (some ⟨g',0,none⟩) (k+1) Dr))->Xl W (w1.setCell ⟨B,0,none⟩ (.slice (some ⟨g',0,none⟩) (k+1) Dr))->K (a.put o.dst (.slice (some ⟨g',0,none⟩) (k+1) Dr)) w1):
  o.wpIn F n P a (W.alloc tmp).drew K Q:=by
 obtain ⟨v',w1,B8,r1,r2,r3⟩:=run_append_own (P:=P) (W.alloc tmp).drew n₀ t o.type e i z size bytes h1 h2 h3 h4 h5 h6 h7 v k xs (show (W.alloc tmp).drew.ownsRow _ _ _ _ _ _ from Cj.alloc tmp) ⟨W.heap.size,0,none⟩ 1 1 news hn hc h1c b1 b2
  (by show n₀<=(W.alloc tmp).heap.size;simp;omega)
 have r2':(W.drew.alloc tmp).grownBy w1 v.ownBlock:=r2;obtain ⟨g',Dr,rfl⟩:=ownsRow_succ r1;obtain ⟨q1,q2,q3,q4,q5⟩:=(show Boxed W.drew _ _ _ from hv).appended hte (show W.drew.ownsRow _ _ _ _ _ _ from Cj) hn₀ hB r1 r2';have q6:=Zo0 (v':= .slice (some ⟨g',0,none⟩) (k+1) Dr) (show Boxed W.drew _ _ _ from hv) ht6 (show W.drew.ownsRow _ _ _ _ _ _ from Cj) he6 r2';unfold Oper.wpIn;refine ⟨?_,?_⟩
 ·simp [Oper.about,MZ,resolve,Target.leads,Sem.run_pure]
 ·rw [Oper.semAt_plain F _ _ (by rw [MZ];intro c EH;cases EH)];simp [execOp,MZ,resolve,invoke,builtin,hs,hx,B8,Result.andThen];exact hK g' Dr w1 q1.cell q1.frozen q2 q3 ((KeepsOthers.drew W).trans q4) ((below_drewN (Below.refl _ W) 1).trans q5) q6
set_option maxHeartbeats 4000000 in
theorem Zn0 {ok0:Nat->Nat->Prop} {a1 a2 a3:Option Addr} {l1 l2 l3 c1 c2 c3:Nat} (s:ByteArray) (x:Int×(List (Int×Int)×(List Int×List Int))) (all:List (Int×(Int×ByteArray))) (ps:List Int) (r c:Int) (w:World)
    (B3:∀ b o,ok0 b o->b<w.heap.size) (hr:O9 ok0 w x (.slice a1 l1 c1) (.slice a2 l2 c2) (.slice a3 l3 c3)) (hT:I7 s=some (all,0)) (hR:LP x (AZ all)=some r) (hC:LO x=some c) (V7:¬ r<c)
    (hP:OS x=some ps) (Dc:∀ p∈ps,0<=p/\p<(all.length:Int)) (ER:ps.length<=4294967296):
    Calls prog 12 #[.string s, .agg #[.int .i64 x.1, .slice a1 l1 c1, .slice a2 l2 c2, .slice a3 l3 c3]] w (Zjo w all ps):=by
  refine (callsIn_wide (n:=4)).1 ?_;have DF:Fence.wide.round=none:=rfl;obtain ⟨i0,JM,FZ,LN,M3⟩:=info_parts Yt6;have HR:=Lib.hid hr;have HT:=Lib.hid hT;have fD:=Lib.hid hR;have HC:=Lib.hid hC;have HP:=Lib.hid hP;have HI:=Lib.hid Dc;have HO:=Lib.hid B3;have HL:=Lib.hid ER;clear hr hT hR hC hP Dc B3 ER;refine callsIn_of_wp_marks func12 rfl trivial ?_ DF;simp only [ntmps12,List.size_toArray,Aw,List.length_nil,Nat.reduceAdd,Nat.reduceSub,Array.replicate_succ,Array.replicate_zero,List.push_toArray,List.append_toArray,AS,List.cons_append];have h1:1<=4:=Ad
  have Ds:prog.follows .mixedOrders=true:=Ag
  gi_wp2_with (refine ⟨trivial,?_⟩;gi_at_call 39;refine (callsIn_wide.2 (jy s _ _ HT.out)).mono ?_;rintro e w2 ⟨⟨a,n,cc,Cj,rfl⟩,DE⟩;obtain ⟨Fb,Hr,Is,KR⟩:=Zzq w _ _ _ _ _ DE;have H1:=Lib.hid Cj;have H2:=Lib.hid DE;clear Cj DE)
  rename_i K1 eY K2 hK2;have hn:n=all.length:=by
    obtain ⟨_,_,_,hv,hl,_⟩:=H1.out;cases hv;exact hl.symm
  subst hn;have BL:w.heap.size<w2.heap.size:=by have:=H2.out.size;simp at this;omega
  have HB:Below w.heap.size w w2:=((Below.refl _ w).alloc (Au _) _).trans (H2.out.mono Ah);have KO:GG w w2 (.int .i64 x.1) (.slice a1 l1 c1) (.slice a2 l2 c2) (.slice a3 l3 c3) (.slice a all.length cc) (w2.alloc (.cells #[.slice a all.length cc] 22)).drew:=
    ⟨below_drewN (HB.alloc (Nat.le_of_lt BL) _) 1,below_drewN ((Below.refl _ w2).alloc (Au _) _) 1,(World.cell?_alloc_lt w2 _ ⟨w.heap.size,0,none⟩ BL).trans Fb,(World.cell?_alloc_lt w2 _ ⟨w.heap.size,1,none⟩ BL).trans Hr,(World.cell?_alloc_lt w2 _ ⟨w.heap.size,2,none⟩ BL).trans Is,
      (World.cell?_alloc_lt w2 _ ⟨w.heap.size,3,none⟩ BL).trans KR,by show (w2.alloc (.cells #[.slice a all.length cc] 22)).cell? _=_;rw [cell_of_row _ _ _ _ _ _ (heap_alloc_new w2 _)];rfl,by show w.heap.size<(w2.alloc _).heap.size;simp;omega,by show w2.heap.size<(w2.alloc _).heap.size;simp⟩
  clear Fb Hr Is KR;obtain ⟨_,_,Fb,Hr,Is,KR,OG,_,_⟩:=id KO;have HG:=Lib.hid KO;have fC:=Lib.hid HB;clear KO HB;have RD:∀ W5,GG w w2 (.int .i64 x.1) (.slice a1 l1 c1) (.slice a2 l2 c2) (.slice a3 l3 c3) (.slice a all.length cc) W5->Exit.then K2 (Exit.then K1 (bodyPostM Fence.wide 4 prog f12 (Zjo w all ps))) .normal
      { tmps := #[.string s, .agg #[.int .i64 x.1, .slice a1 l1 c1, .slice a2 l2 c2, .slice a3 l3 c3], undef, .pointer (some ⟨w.heap.size, 0, none⟩), .slice none 0 0, .int .i64 0, .pointer (some ⟨w2.heap.size, 0, none⟩), .int .i64 0, undef, undef,
          .tuple #[.slice a all.length cc, .int .i64 0], .string s, .tuple #[.slice a all.length cc, .int .i64 0], .slice a all.length cc, .int .i64 0, .int .i64 0, .bool false,undef, .agg #[.int .i64 x.1, .slice a1 l1 c1, .slice a2 l2 c2, .slice a3 l3 c3],
          .slice a all.length cc, .int .i64 (all.length:Int), .int .i64 r, .agg #[.int .i64 x.1, .slice a1 l1 c1, .slice a2 l2 c2, .slice a3 l3 c3], .int .i64 c, .bool (decide (r<c)),undef,undef,undef,undef,undef,undef,undef,undef,undef,undef,undef],defers:=[] } W5:=by
    intro W5 hG;obtain ⟨Zd,p7,Fb,Hr,Is,KR,OG,hl,ra⟩:=hG;have Xvi:¬ r<c:=Ad
    have p9:(W5.alloc (.cells #[.slice none 0 0] 22)).cell? ⟨w.heap.size,0,none⟩=some (.int .i64 x.1):=(World.cell?_alloc_lt W5 _ ⟨w.heap.size,0,none⟩ hl).trans Fb;have TU:(W5.alloc (.cells #[.slice none 0 0] 22)).cell? ⟨w.heap.size,1,none⟩=some (.slice a1 l1 c1):=(World.cell?_alloc_lt W5 _ ⟨w.heap.size,1,none⟩ hl).trans Hr;have TQ:(W5.alloc (.cells #[.slice none 0 0] 22)).cell? ⟨w.heap.size,2,none⟩=some (.slice a2 l2 c2):=(World.cell?_alloc_lt W5 _ ⟨w.heap.size,2,none⟩ hl).trans Is;have hA3:(W5.alloc (.cells #[.slice none 0 0] 22)).cell? ⟨w.heap.size,3,none⟩=some (.slice a3 l3 c3):=(World.cell?_alloc_lt W5 _ ⟨w.heap.size,3,none⟩ hl).trans KR;have Zar:Below w.heap.size w (W5.alloc (.cells #[.slice none 0 0] 22)):=Zd.alloc Zd.size _;have h5:w.heap.size<=W5.heap.size:=Zd.size;have CT:=Zp0 (ok0:=ok0) 3 Ad W5.heap.size x ps (W5.alloc (.cells #[.slice none 0 0] 22)) Ah (λ b o h=>Nat.lt_of_lt_of_le (HO.out b o h) h5) (HR.out.below HO.out Zar) HP.out HL.out;have HPL:=Lib.hid CT;clear CT
    gi_wp2_with (refine ⟨trivial,?_⟩;gi_at_call 42;refine (callsIn_wide.2 HPL.out).mono ?_;rintro e w7 ⟨g,lb,rfl,hb7,Zbr,Zcr⟩;have H7:=Lib.hid hb7;have HE:=Lib.hid Zbr;have HS:=Lib.hid Zcr;clear hb7 Zbr Zcr)
    have fE:Below W5.heap.size W5 w7:=((Below.refl _ W5).alloc (Au _) _).trans (H7.out.mono Ah);have Er:Boxed w7 W5.heap.size 22 (.slice none 0 0):=(H7.out.block W5.heap.size Ah).trans (heap_alloc_new W5 _);have Zdr:Below w2.heap.size w2 w7:=p7.trans (fE.mono p7.size);have VO:W5.heap.size<w7.heap.size:=by have:=H7.out.size;simp at this;omega
    refine wpIn_rangeFunc_ownG (α:={ y:Int // y∈ps }) DF h1 (gf:=g) (lb:=lb) rfl trivial HE.out HS.out.stops (λ h k=>h.trans k) (Xle (Nat.le_of_lt VO)) (Below.refl _ _) (λ _=>rfl)
      (λ pre W=>(∃ v,Boxed W W5.heap.size 22 v/\W.ownsRow W5.heap.size 45 3 v pre.length (KU (pick all (pre.map (·.1))))/\True)/\Below W5.heap.size w7 W)
      (λ _ _ _=>False)
      (OwnFrom.and (Own.from (holdsRow_own W5.heap.size W5.heap.size 22 45 3 (λ pre:List { y:Int // y∈ps }=>pre.length) (λ pre=>KU (pick all (pre.map (·.1)))) (λ _ _=>True)) _) (ownFrom_below (Nat.le_of_lt VO) (Nat.le_of_lt VO)))
      (λ _ _ _ _ _ hs _ _=>hs)
      ⟨⟨_,Er,World.ownsRow_nil _ _ _ _,trivial⟩,Below.refl _ _⟩
      (λ y => { tmps := #[.string s, .agg #[.int .i64 x.1, .slice a1 l1 c1, .slice a2 l2 c2, .slice a3 l3 c3], undef, .pointer (some ⟨w.heap.size, 0, none⟩), .slice none 0 0, .int .i64 0, .pointer (some ⟨w2.heap.size, 0, none⟩), .int .i64 0, .pointer (some ⟨W5.heap.size, 0, none⟩), .int .i64 y.1,
          .tuple #[.slice a all.length cc, .int .i64 0], .string s, .tuple #[.slice a all.length cc, .int .i64 0], .slice a all.length cc, .int .i64 0, .int .i64 0, .bool false,undef, .agg #[.int .i64 x.1, .slice a1 l1 c1, .slice a2 l2 c2, .slice a3 l3 c3],
          .slice a all.length cc, .int .i64 (all.length:Int), .int .i64 r, .agg #[.int .i64 x.1, .slice a1 l1 c1, .slice a2 l2 c2, .slice a3 l3 c3], .int .i64 c, .bool (decide (r<c)), .agg #[.int .i64 x.1, .slice a1 l1 c1, .slice a2 l2 c2, .slice a3 l3 c3],
          .func (.func g) #[] lb, .int .i64 y.1,undef,undef,undef,undef,undef,undef,undef,undef],defers:=[] }) ?assign ?body ?done ?stop
    case assign=>
      intro l y W K hK;simp only [encI];gi_wp2;exact hK
    case body=>
      rintro l pre ⟨y,hy⟩ W ⟨⟨v,hv,Cj,hT0⟩,hB⟩ AY;obtain ⟨NF,VW⟩:=HI.out y hy;obtain ⟨k,rfl⟩:=Int.eq_ofNat_of_zero_le NF;have hk:k<all.length:=Ad
      obtain ⟨_,CN,Ly,b,off,rfl,OA,VL,VM,VV⟩:=Yog H1.out hk;have DE:b<w2.heap.size:=by
        rcases OA with h | h
        · exact h.elim
        · exact h.2
      have fF:Below w2.heap.size w2 W:=Zdr.trans (hB.mono (Nat.le_trans (Nat.le_of_lt ra) (Au _)));have Hb:W.cell? ⟨b,off+k*3,none⟩=some (.int .i64 all[k].1):=(fF.cell (p:=⟨b,off+k*3,none⟩) DE).trans VL;have JN:W.cell? ⟨b,off+k*3+1,none⟩=some (.int .i64 all[k].2.1):=(fF.cell (p:=⟨b,off+k*3+1,none⟩) DE).trans VM;have Jj:W.cell? ⟨b,off+k*3+2,none⟩=some (.string all[k].2.2):=(fF.cell (p:=⟨b,off+k*3+2,none⟩) DE).trans VV;have h6W:W.cell? ⟨w2.heap.size,0,none⟩=some (.slice (some ⟨b,off,none⟩) all.length cc):=(hB.cell (p:=⟨w2.heap.size,0,none⟩) ra).trans ((fE.cell (p:=⟨w2.heap.size,0,none⟩) ra).trans OG);have hc:=hv.cell;have Xmi:pre.length<4294967296:=Nat.lt_of_lt_of_le AY HL.out;have CB:(W.alloc (.cells #[.int .i64 all[k].1, .int .i64 all[k].2.1, .string all[k].2.2] 45)).cell? ⟨W5.heap.size,0,none⟩=some v:=(World.cell?_alloc_lt W _ ⟨W5.heap.size,0,none⟩ hv.lt).trans hc;have HV:=Lib.hid hv;have HW:=Lib.hid Cj;have HBB:=Lib.hid hB;clear hv Cj hB VL VM VV fF;gi_wp2;rename_i Q2 hQ2;clear hT0 HR HT fD HC HP HO H2 fC Zd p7 p9 TU TQ hA3 Zar HPL HE HS H7 Er Zdr fE;have eA:∀ {a:Act} {K:Act->World->Prop} {o:Oper},o.op=Op.call { callee:=Callee.builtin Builtin.append,args:=#[.tmp 28, .tmp 33],argTypes:=#[22,22] }->a.eval (.tmp 28)=v->a.eval (.tmp 33) = .slice (some ⟨W.heap.size,0,none⟩) 1 1->(∀ (g' Dr:Nat) (w1:World),w1.cell? ⟨W5.heap.size,0,none⟩=some v->w1.frozen? ⟨W5.heap.size,0,none⟩=false->Boxed (w1.setCell ⟨W5.heap.size,0,none⟩ (.slice (some ⟨g',0,none⟩) (pre.length+1) Dr)) W5.heap.size 22 (.slice (some ⟨g',0,none⟩) (pre.length+1) Dr)->World.ownsRow (w1.setCell ⟨W5.heap.size,0,none⟩ (.slice (some ⟨g',0,none⟩) (pre.length+1) Dr)) W5.heap.size 45 3 (.slice (some ⟨g',0,none⟩) (pre.length+1) Dr) (pre.length+1) (KU (pick all (pre.map (·.1)))++L9 all[k])->KeepsOthers W (w1.setCell ⟨W5.heap.size,0,none⟩ (.slice (some ⟨g',0,none⟩) (pre.length+1) Dr))->Below W5.heap.size W (w1.setCell ⟨W5.heap.size,0,none⟩ (.slice (some ⟨g',0,none⟩) (pre.length+1) Dr))->Xl W (w1.setCell ⟨W5.heap.size,0,none⟩ (.slice (some ⟨g',0,none⟩) (pre.length+1) Dr))->K (a.put o.dst (.slice (some ⟨g',0,none⟩) (pre.length+1) Dr)) w1)->o.wpIn (Fence.wide.inRound l) 2 prog a (W.alloc (.cells #[.int .i64 all[k].1, .int .i64 all[k].2.1, .string all[k].2.2] 45)).drew K (Exit.inBlock 1 Q2):=λ ho hs hx hK=>
        Yng ho underlying22 JM FZ LN M3 rfl Af hs hx HV.out Af Af Af HW.out (by have:=HBB.out.size;omega) (Au _) (news:=L9 all[k]) rfl (Ypg (T:=45) (y:=(0,0)) (heap_alloc_new W _)) (Zy4 _) (by unfold maxLen;omega) Ad hK
      have YA:∀ (a:Act) g' Dr W',Boxed W' W5.heap.size 22 (.slice (some ⟨g',0,none⟩) (pre.length+1) Dr)->W'.ownsRow W5.heap.size 45 3 (.slice (some ⟨g',0,none⟩) (pre.length+1) Dr) (pre.length+1) (KU (pick all (pre.map (·.1)))++L9 all[k])->KeepsOthers W W'->Below W5.heap.size W W'->Xl W W'->Exit.inBlock 1 Q2 .normal a W':=by
        intro a g' Dr W' I1 I2 I3 I4 I5;have dF:W'.ownsRow W5.heap.size 45 3 (.slice (some ⟨g',0,none⟩) (pre.length+1) Dr) (pre++[(⟨(k:Int),hy⟩:{ y:Int // y∈ps })]).length (KU (pick all ((pre++[(⟨(k:Int),hy⟩:{ y:Int // y∈ps })]).map (·.1)))):=by
          rw [Ap,AG,pick,AG,List.map_singleton,List.map_singleton,Ys6 hk,Zzt];exact I2
        exact ⟨I3.from _,⟨I4,I5⟩,⟨_,I1,dF,trivial⟩,HBB.out.trans I4⟩
      refine wpIn_region_any Ds ?_
      try (change wpAnyIn _ _ _ _ _ _ _ _ _ (World.drew _))
      all_goals
        first
          | refine wpAnyIn_ready (rs:=[0,1,2]) (by decide +kernel) Ah ?_
        repeat' (first | exact AllReadyIn.nil | refine AllReadyIn.cons rfl (λ K hK=>?_) ?_)
        all_goals (go_simp;refine hK _ _ ?_;clear hK K)
      all_goals
        first
          | refine wpAnyIn_ready (rs:=[1,2]) (by decide +kernel) Ah ?_
          | refine wpAnyIn_ready (rs:=[0,2]) (by decide +kernel) Ah ?_
          | refine wpAnyIn_ready (rs:=[0,1]) (by decide +kernel) Ah ?_
        repeat' (first | exact AllReadyIn.nil | refine AllReadyIn.cons rfl (λ K hK=>?_) ?_)
        all_goals (go_simp;refine hK _ _ ?_;clear hK K)
      all_goals
        first
          | refine wpAnyIn_ready (rs:=[2]) (by decide +kernel) Ah ?_
          | refine wpAnyIn_ready (rs:=[1]) (by decide +kernel) Ah ?_
          | refine wpAnyIn_ready (rs:=[0,3]) (by decide +kernel) Ah ?_
        repeat' (first | exact AllReadyIn.nil | refine AllReadyIn.cons rfl (λ K hK=>?_) ?_)
        all_goals (go_simp;refine hK _ _ ?_;clear hK K)
      all_goals
        first
          | refine wpAnyIn_ready (rs:=[3]) (by decide +kernel) Ah ?_
          | refine wpAnyIn_ready (rs:=[0,4]) (by decide +kernel) Ah ?_
        repeat' (first | exact AllReadyIn.nil | refine AllReadyIn.cons rfl (λ K hK=>?_) ?_)
        all_goals (go_simp;refine hK _ _ ?_;clear hK K)
      all_goals
        first
          | refine wpAnyIn_ready (rs:=[4]) (by decide +kernel) Ah ?_
          | refine wpAnyIn_ready (rs:=[0,5]) (by decide +kernel) Ah ?_
        repeat' (first | exact AllReadyIn.nil | refine AllReadyIn.cons rfl (λ K hK=>?_) ?_)
        all_goals (go_simp;refine hK _ _ ?_;clear hK K)
      all_goals
        first
          | refine wpAnyIn_ready (rs:=[5]) (by decide +kernel) Ah ?_
          | refine wpAnyIn_ready (rs:=[0]) (by decide +kernel) Ah ?_
        repeat' (first | exact AllReadyIn.nil | refine AllReadyIn.cons rfl (λ K hK=>?_) ?_)
        all_goals (go_simp;refine hK _ _ ?_;clear hK K)
      all_goals
        refine wpAnyIn_ready (rs:=[6]) Ag Ah ?_;refine AllReadyIn.cons rfl (λ K hK=>Ytz Ag ?_) AllReadyIn.nil;refine eA (by rfl) (by rfl) (by rfl) λ g' Dr w1 Ij Y1 I1 I2 I3 I4 I5=>?_
        refine hK _ _ ?_;clear hK K eA;refine wpAnyIn_ready (rs:=[7]) Ag Ah ?_;refine AllReadyIn.cons rfl (λ K hK=>?_) AllReadyIn.nil
        go_simp
        refine hK _ _ ?_;clear hK K;refine wpAnyIn_done Ag ?_ _;exact YA _ g' Dr _ I1 I2 I3 I4 I5
    case done=>
      rintro D ys W hD qQ ⟨⟨v,hv,Cj,_⟩,hB⟩ hK;have hc:=hv.cell;have HB9:Below w.heap.size w W:=(Zd.trans (fE.mono h5)).trans (hB.mono h5);have hlen:ys.length=ps.length:=by have:=congrArg List.length qQ;simpa using this
      rw [qQ,hlen] at Cj;have HW:=Lib.hid Cj;have HB3:=Lib.hid HB9;clear Cj hB HB9 hv;gi_wp2;refine ⟨Ah, .inl ⟨_,_,rfl,run_takeDeferred hK,?_⟩⟩;refine ⟨_,results_tmp2 rfl _ _ _,v,rfl,ownsRow_putObj (Zrh HW.out h5) _ hK rfl,HB3.out.trans (belowK_b (w:=w7) (Nat.le_trans h5 (Nat.le_of_lt VO)) W D _ _ hD hK rfl rfl)⟩
    case stop=>
      rintro D c pre W _ _ h _;exact h.elim
  first | gi_region_with_o (first
    | (refine ⟨trivial,?_⟩;gi_at_call 40;refine (callsIn_wide.2 (xq x (AZ all) r _ (λ b o h=>Nat.lt_of_lt_of_le (HO.out b o h) HG.out.below.size) (HR.out.below HO.out HG.out.below) fD.out)).mono ?_;rintro e w5 ⟨rfl,Mt⟩;replace HG:=Lib.hid (HG.out.step Mt);clear Mt Fb Hr Is KR OG;obtain ⟨_,_,Fb,Hr,Is,KR,OG,_,_⟩:=id HG.out)
    | (refine ⟨trivial,?_⟩;gi_at_call 41;refine (callsIn_wide.2 (uX x c _ (λ b o h=>Nat.lt_of_lt_of_le (HO.out b o h) HG.out.below.size) (HR.out.below HO.out HG.out.below) HC.out)).mono ?_;rintro e w5 ⟨rfl,Mt⟩;replace HG:=Lib.hid (HG.out.step Mt);clear Mt Fb Hr Is KR OG;obtain ⟨_,_,Fb,Hr,Is,KR,OG,_,_⟩:=id HG.out)) | fail
  all_goals exact RD _ HG.out
end Go.Proofs.YtclpadlpcfnfmaaGreat.Am
end

section
/- sift.Gather: its contract. -/
namespace Go.Proofs.YtclpadlpcfnfmaaGreat.Am
open Go.Proofs.Tryz
open Go.AM Go.AM.Pure Go.RowKit Go.Shelf Go.Lib
open Go.Proofs
attribute [local go_sem] Oper.semAt_some
set_option maxRecDepth 100000
def GNo (w:World) (n:Int) (e:Ending) (w':World):Prop:=e = .returned (.tuple #[.slice none 0 0, .int .i64 n])/\Below w.heap.size w w'
set_option maxHeartbeats 2000000 in
theorem Zx4 {a1 a2 a3:Option Addr} {l1 l2 l3 c1 c2 c3:Nat} (s:ByteArray) (x1:Int) (all:List (Int×(Int×ByteArray))) (er:Int) (w:World) (hT:I7 s=some (all,er)) (he:¬ er=0):
  Calls prog 12 #[.string s, .agg #[.int .i64 x1, .slice a1 l1 c1, .slice a2 l2 c2, .slice a3 l3 c3]] w (GNo w er):=by
 refine (callsIn_wide (n:=4)).1 ?_;have DF:Fence.wide.round=none:=rfl;have HT:=Lib.hid hT;clear hT;refine callsIn_of_wp func12 rfl trivial ?_ DF;simp only [ntmps12,List.size_toArray,Aw,List.length_nil,Nat.reduceAdd,Nat.reduceSub,Array.replicate_succ,Array.replicate_zero,List.push_toArray,List.append_toArray,AS,List.cons_append]
 gi_wp2_with (refine ⟨trivial,?_⟩;gi_at_call 39;refine (callsIn_wide.2 (jy s _ _ HT.out)).mono ?_;rintro e w2 ⟨⟨a,n,cc,Cj,rfl⟩,DE⟩;have H2:=Lib.hid DE;clear Cj DE)
 refine bodyPost_ret (results_tmp2 rfl _ _ _) rfl ?_;have HB:Below w.heap.size w w2:=((Below.refl _ w).alloc (Au _) _).trans (H2.out.mono Ah);exact ⟨rfl,HB.alloc HB.size _⟩
set_option maxHeartbeats 4000000 in
theorem Zdx {ok0:Nat->Nat->Prop} {a1 a2 a3:Option Addr} {l1 l2 l3 c1 c2 c3:Nat} (s:ByteArray) (x:Int×(List (Int×Int)×(List Int×List Int))) (all:List (Int×(Int×ByteArray))) (r c:Int) (w:World)
  (B3:∀ b o,ok0 b o->b<w.heap.size) (hr:O9 ok0 w x (.slice a1 l1 c1) (.slice a2 l2 c2) (.slice a3 l3 c3)) (hT:I7 s=some (all,0)) (hR:LP x (AZ all)=some r) (hC:LO x=some c) (V7:r<c):
  Calls prog 12 #[.string s, .agg #[.int .i64 x.1, .slice a1 l1 c1, .slice a2 l2 c2, .slice a3 l3 c3]] w (GNo w 3):=by
 refine (callsIn_wide (n:=4)).1 ?_;have DF:Fence.wide.round=none:=rfl;have HR:=Lib.hid hr;have HT:=Lib.hid hT;have fD:=Lib.hid hR;have HC:=Lib.hid hC;have HO:=Lib.hid B3;clear hr hT hR hC B3;refine callsIn_of_wp func12 rfl trivial ?_ DF;simp only [ntmps12,List.size_toArray,Aw,List.length_nil,Nat.reduceAdd,Nat.reduceSub,Array.replicate_succ,Array.replicate_zero,List.push_toArray,List.append_toArray,AS,List.cons_append];have h1:1<=4:=Ad
 have Ds:prog.follows .mixedOrders=true:=Ag
 gi_wp2_with (refine ⟨trivial,?_⟩;gi_at_call 39;refine (callsIn_wide.2 (jy s _ _ HT.out)).mono ?_;rintro e w2 ⟨⟨a,n,cc,Cj,rfl⟩,DE⟩;obtain ⟨Fb,Hr,Is,KR⟩:=Zzq w _ _ _ _ _ DE;have H1:=Lib.hid Cj;have H2:=Lib.hid DE;clear Cj DE)
 have hn:n=all.length:=by
  obtain ⟨_,_,_,hv,hl,_⟩:=H1.out;cases hv;exact hl.symm
 subst hn;have BL:w.heap.size<w2.heap.size:=by have:=H2.out.size;simp at this;omega
 have HB:Below w.heap.size w w2:=((Below.refl _ w).alloc (Au _) _).trans (H2.out.mono Ah);have KO:GG w w2 (.int .i64 x.1) (.slice a1 l1 c1) (.slice a2 l2 c2) (.slice a3 l3 c3) (.slice a all.length cc) (w2.alloc (.cells #[.slice a all.length cc] 22)).drew:=
  ⟨below_drewN (HB.alloc (Nat.le_of_lt BL) _) 1,below_drewN ((Below.refl _ w2).alloc (Au _) _) 1,(World.cell?_alloc_lt w2 _ ⟨w.heap.size,0,none⟩ BL).trans Fb,(World.cell?_alloc_lt w2 _ ⟨w.heap.size,1,none⟩ BL).trans Hr,(World.cell?_alloc_lt w2 _ ⟨w.heap.size,2,none⟩ BL).trans Is,
   (World.cell?_alloc_lt w2 _ ⟨w.heap.size,3,none⟩ BL).trans KR,by show (w2.alloc (.cells #[.slice a all.length cc] 22)).cell? _=_;rw [cell_of_row _ _ _ _ _ _ (heap_alloc_new w2 _)];rfl,by show w.heap.size<(w2.alloc _).heap.size;simp;omega,by show w2.heap.size<(w2.alloc _).heap.size;simp⟩
 clear Fb Hr Is KR;obtain ⟨_,_,Fb,Hr,Is,KR,OG,_,_⟩:=id KO;have HG:=Lib.hid KO;clear KO HB
 gi_region_with_o (first
  | (refine ⟨trivial,?_⟩;gi_at_call 40;refine (callsIn_wide.2 (xq x (AZ all) r _ (λ b o h=>Nat.lt_of_lt_of_le (HO.out b o h) HG.out.below.size) (HR.out.below HO.out HG.out.below) fD.out)).mono ?_;rintro e w5 ⟨rfl,Mt⟩;replace HG:=Lib.hid (HG.out.step Mt);clear Mt Fb Hr Is KR OG;obtain ⟨_,_,Fb,Hr,Is,KR,OG,_,_⟩:=id HG.out)
  | (refine ⟨trivial,?_⟩;gi_at_call 41;refine (callsIn_wide.2 (uX x c _ (λ b o h=>Nat.lt_of_lt_of_le (HO.out b o h) HG.out.below.size) (HR.out.below HO.out HG.out.below) HC.out)).mono ?_;rintro e w5 ⟨rfl,Mt⟩;replace HG:=Lib.hid (HG.out.step Mt);clear Mt Fb Hr Is KR OG;obtain ⟨_,_,Fb,Hr,Is,KR,OG,_,_⟩:=id HG.out))
 all_goals gi_wp2
 all_goals
  refine bodyPost_ret (results_tmp2 rfl _ _ _) rfl ?_;exact ⟨rfl,HG.out.below⟩
theorem Zl0 {ok:Nat->Nat->Prop} {w:World} (l:List (Int×(Int×ByteArray))):Jr ok w RL l (KU l):=by
 refine ⟨Zyt l,λ i x hi=>⟨L9 x,⟨[.int .i64 x.1],_,rfl,rfl,[.int .i64 x.2.1],[.string x.2.2],rfl,rfl,rfl⟩,λ j u hj=>?_⟩⟩;induction l generalizing i with
 | nil=>cases hi
 | cons a l ih=>
  have hj3:j<3:=(List.getElem?_eq_some_iff.1 hj).1;cases i with
  | zero=>
   have hax:a=x:=by simpa using hi
   subst hax;show (L9 a++KU l)[0*3+j]? = some u;rw [Nat.zero_mul,AF,AR hj3];exact hj
  | succ i=>
   have:=ih i (by simpa using hi);show (L9 a++KU l)[(i+1)*3+j]? = some u;rw [AJ (by show 3<=_;omega),show (i+1)*3+j-(L9 a).length=i*3+j by show _-3=_;omega];exact this
theorem iN {ok0:Nat->Nat->Prop} {w w':World} {v:Value} {l:List (Int×(Int×ByteArray))} {n:Int} (ho:w'.ownsRow w.heap.size 45 3 v l.length (KU l)):
  ∃ us,Ph (T6 ok0 w w') w' (Jt [.sl RL, .int .i64]) (l,n) us/\Ending.returned (.tuple #[v, .int .i64 n]) = .returned (RX us):=
 ⟨[v, .int .i64 n],⟨[v],[.int .i64 n],rfl,aZ (e:=RL) ho (Zl0 l) λ b o h1 h2=> .inr ⟨h1,h2⟩,[.int .i64 n],rfl,rfl⟩,rfl⟩
@[reducible] def Zp : AM.Spec := AM.spec [.val .str, .val Vo] [(.sl RL, []), (.int .i64, [])] (λ x => Ku x.1 x.2.1)
theorem gk:Bh prog 12 Zp:=
 W7 (ps:=[.str,Vo]) (rs:=[.sl RL, .int .i64]) λ x y hF ok0 w vs z hz B3 ha=>by
  obtain ⟨cs,r,rfl,hr,cs2,r2,rfl,Jj,Hb⟩:=ha;cases Hb;simp only [RepD] at hr;subst hr;obtain ⟨a1,n1,c1,a2,n2,c2,a3,n3,c3,rfl,hL⟩:=Zm0 Jj;obtain ⟨s,l,u⟩:=x;have hF:Ku s l=some y:=hF;unfold Ku at hF;cases hT:I7 s with
  | none=>rw [hT] at hF;cases hF
  | some t=>
   rw [hT] at hF;dsimp only [Option.bind] at hF;obtain ⟨all,e⟩:=t;by_cases he:e=0
   ·subst he;rw [show BK ((all,(0:Int)).2) 0=false from rfl] at hF;dsimp only [cond] at hF;cases hR:LP l (AZ all) with
    | none=>rw [hR] at hF;cases hF
    | some r=>
     rw [hR] at hF;dsimp only at hF;cases hC:LO l with
     | none=>rw [hC] at hF;cases hF
     | some c=>
      rw [hC] at hF;dsimp only at hF;by_cases V7:r<c
      ·rw [show A8 r c=true from Aq V7] at hF;cases hF;refine (Zdx s l all r c w B3 hL hT hR hC V7).mono ?_;rintro e w' ⟨rfl,hb⟩;exact ⟨iN (l:=[]) (World.ownsRow_nil _ _ _ _),hb⟩
      ·rw [show A8 r c=false from Ax V7] at hF;dsimp only [cond] at hF;cases hP:OS l with
       | none=>rw [hP] at hF;cases hF
       | some ps=>
        rw [hP] at hF;dsimp only at hF;cases hg:(ps.all λ at_=>Bf at_ (AZ all)) && decide (ps.length<=4294967296) with
        | false=>rw [hg] at hF;cases hF
        | true=>
         rw [hg] at hF;cases hF;rw [Bool.and_eq_true,List.all_eq_true] at hg;refine (Zn0 s l all ps r c w B3 hL hT hR hC V7 hP (λ p hp=>?_) (Az hg.2)).mono ?_
         ·have:=hg.1 p hp;unfold Bf at this;rw [Bool.and_eq_true] at this;exact ⟨Az this.1,Az this.2⟩
         ·rintro e w' ⟨v,rfl,ho,hb⟩;have PC:w'.ownsRow w.heap.size 45 3 v (pick all ps).length (KU (pick all ps)):=by rw [Av];exact ho
          exact ⟨iN PC,hb⟩
   ·rw [show BK (all,e).2 0=true from bne_iff_ne.2 he] at hF;cases hF;refine (Zx4 s l.1 all e w hT he).mono ?_;rintro e1 w' ⟨rfl,hb⟩;exact ⟨iN (l:=[]) (World.ownsRow_nil _ _ _ _),hb⟩
end Go.Proofs.YtclpadlpcfnfmaaGreat.Am
end

section
/- dict.Of of numbers, of none too. -/
namespace Go.Proofs.YtclpadlpcfnfmaaGreat.Am
open Go.Proofs.Tryz
open Go.AM Go.AM.Pure Go.RowKit Go.Shelf Go.Lib
open Go.Proofs
set_option maxRecDepth 100000
def Xke (w:World) (e:Ending) (w':World):Prop:=∃ v,e = .returned (.tuple #[v, .slice none 0 0])/\w'.ownsRow w.heap.size 3 1 v 0 []/\Below w.heap.size w w'
set_option maxHeartbeats 2000000 in
theorem of_nil {ok0:Nat->Nat->Prop} (a:Option Addr) (cap:Nat) (w:World) (hr:RepD ok0 w (.sl (.int .i64)) ([]:List Int) [.slice a 0 cap]):Calls prog 95 #[.slice a 0 cap] w (Xke w):=by
 have Ij:=tK (.slice a 0 cap) [] w hr Ah;have HC:=Lib.hid Ij;clear Ij hr;go_enter func95,ntmps95;go_wp2_with fail;refine HC.out.mono ?_;rintro e w1 ⟨v,rfl,ho,hb⟩;have hs:=xp w.heap.size v [] w1 hb.size Ah ho;have hv:v = .slice none 0 0\/∃ g c,v = .slice (some ⟨g,0,none⟩) 0 c:=by
  rcases ho.2 with ⟨h,_⟩ | ⟨g,c,_,h,_⟩
  ·exact .inl h
  ·exact .inr ⟨g,c,h⟩
 have HS:=Lib.hid hs;have HB:=Lib.hid hb;clear hs ho hb HC;go_wp2_with fail;refine HS.out.mono ?_;rintro e w2 ⟨rfl,V6,DE⟩;rw [List.mergeSort_nil] at V6;have HO:=Lib.hid V6;have fC:=Lib.hid (HB.out.trans DE);clear V6 DE HS HB;rcases hv with rfl | ⟨g,c,rfl⟩
 ·go_wp2;refine wp_loop_rounds 1 ?_;rw [rounds_succ];go_wp2;go_ret2;exact ⟨_,rfl,HO.out,fC.out⟩
 ·go_wp2;refine wp_loop_rounds 1 ?_;rw [rounds_succ];go_wp2;go_ret2;exact ⟨_,rfl,HO.out,fC.out⟩
@[reducible] def sE : AM.Spec := AM.spec [.val (.sl (.int .i64))] [(.sl (.int .i64), []), (.sl (.int .i64), [])] (λ x => aN x.1)
theorem Zuz:Bh prog 95 sE:=
 W7 (ps:=[.sl (.int .i64)]) (rs:=[.sl (.int .i64), .sl (.int .i64)]) λ x y hF ok0 w vs z hz B3 ha=>by
  obtain ⟨l,u⟩:=x;cases l with
  | nil=>
   obtain ⟨cs,r,rfl,hr,Hb⟩:=ha;cases Hb;have hF:some (([]:List Int),([]:List Int))=some y:=hF;cases hF;obtain ⟨a,n,cap,rfl,DG,RD⟩:=hr;have hn:n=0:=by rw [<- DG];rfl
   subst hn;refine (of_nil a cap w ⟨a,0,cap,rfl,DG,RD⟩).mono ?_;rintro e w' ⟨v,rfl,ho,hb⟩
   exact ⟨⟨[v, .slice none 0 0],⟨[v],[.slice none 0 0],rfl,aZ (e:= .int .i64) (l:=([]:List Int)) ho ⟨rfl,λ i x hi=>by cases hi⟩ λ b o h1 h2=> .inr ⟨h1,h2⟩,[.slice none 0 0],rfl,
    ⟨none,0,0,rfl,rfl,Au _,Nat.zero_le _,λ i x hi=>by cases hi⟩⟩,rfl⟩,hb⟩
  | cons a l=>
   have hF:FE (a :: l)=some y:=hF;exact UN (ps:=[.sl (.int .i64)]) (rs:=[(.sl (.int .i64),[]),(.sl (.int .i64),[⟨0,1,0,1⟩])]) (x:=(a :: l,())) (y:=y) (F:=λ x=>FE x.1) Zio hF hz B3 ha
end Go.Proofs.YtclpadlpcfnfmaaGreat.Am
end
