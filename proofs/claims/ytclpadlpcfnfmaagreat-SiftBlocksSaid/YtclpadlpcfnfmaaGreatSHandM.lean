import Derived.Maps.AppendAt
import Derived.Shelf.RegionOpen
import Derived.Test.YtclpadlpcfnfmaaGreatSHandG
import Derived.Sort.QuietIn
section
/- sift.Gather walked by hand. -/
namespace Go.Proofs.YtclpadlpcfnfmaaGreat.Am
open Go.AM Go.AM.Pure Go.RowKit Go.Shelf Go.Lib
open Go.Proofs
attribute [local go_sem] Oper.semAt_some
set_option maxRecDepth 100000
def K6 (c:Int×(Int×ByteArray)):List Value:=[.int .i64 c.1, .int .i64 c.2.1, .string c.2.2]
def JZ (l:List (Int×(Int×ByteArray))):List Value:=l.flatMap K6
theorem Yxt:(Tryz.prog.info? 45).map (fun i=>(i.zero,i.size,i.bytes))=some (some (.agg #[.int .i64 0, .int .i64 0, .string ⟨#[]⟩]),3,32):=by kernel_rfl
theorem Zfl (l:List (Int×(Int×ByteArray))):(JZ l).length=l.length*3:=by
 induction l with
 | nil=>rfl
 | cons a l ih=>simp [JZ,K6] at ih ⊢;omega
theorem Zgl (l:List (Int×(Int×ByteArray))) (c:Int×(Int×ByteArray)):JZ (l++[c])=JZ l++K6 c:=by simp [JZ]
theorem Zbv (c:Int×(Int×ByteArray)):∀ u∈K6 c,u.oneCell'=true:=by
 intro u hu
 simp [K6] at hu
 rcases hu with rfl | rfl | rfl <;> rfl
theorem Zo6 {w:World} {b:Nat} {c:Int×(Int×ByteArray)} {T:TypeId} {y:Nat×Nat} (h:w.heap[b]? = some (.cells #[.int .i64 c.1, .int .i64 c.2.1, .string c.2.2] T y)):∀ (j:Nat) (u:Value),(K6 c)[j]? = some u→w.cell? ((⟨b,0,none⟩:Addr).add j)=some u:=by
 intro j u hj
 rw [Addr.add_lit,Au,cell_of_row w b j _ T y h,← hj]
 simp [K6]
theorem Zuq {W w1:World} {n0 B t e size k:Nat} {v v':Value} {xs:List Value} {tmp:Obj} (hv:Boxed W B t v) (ht:t≠67) (BO:W.ownsRow n0 e size v k xs) (he:e≠67) (LK:(W.alloc tmp).grownBy w1 v.ownBlock):
  VM W (w1.setCell ⟨B,0,none⟩ v'):=by
 intro i cur y hi
 have AO:=(Array.getElem?_eq_some_iff.1 hi).1
 have hB:i≠B:=by
  rintro rfl
  have:=(show W.heap[i]? = _ from hv).symm.trans hi
  cases this
  exact ht rfl
 have Cb:some i≠v.ownBlock:=by
  rcases BO.2 with ⟨rfl,_⟩ | ⟨g,cap,cr,rfl,_,SI,_⟩
  ·simp [Value.ownBlock]
  ·intro e'
   have:i=g:=by simpa [Value.ownBlock] using e'
   subst this
   rw [SI] at hi
   cases hi
   exact he rfl
 have h1:=(LK.block i (by simp;omega) Cb).trans ((Below.heap_alloc W tmp i AO).trans hi)
 exact (Below.heap_setCell _ _ _ i hB).trans h1
theorem Yo1 {n₀:Nat} {w:World} (hn:n₀≤w.heap.size):∀ (W:World) (l:Nat) (o o':Obj),w.heap.size≤l→W.heap[l]? = some o→o.isCells=false→o.isWalk=false→Ov n₀ W (W.putObj l o'):=by
 intro W l o o' hl ho hc hw
 refine ⟨belowK_b (w:=w) hn W l o o' hl ho hc hw,fun i cur y hi=>?_⟩
 have:i≠l:=by
  rintro rfl
  rw [hi] at ho
  cases ho
  cases hc
 exact (World.putObj_heap_other this).trans hi
theorem Zn6 {ok:Nat→Nat→Prop} {w:World} {l:List (Int×(Int×ByteArray))} {a:Option Addr} {n c:Nat} (h:RepD ok w (.sl QH) l [.slice a n c]) {i:Nat} (hi:i<l.length):
  n=l.length∧n≤c∧c≤maxLen∧∃ b off,a=some ⟨b,off,none⟩∧ok b (off+i*3)∧w.cell? ⟨b,off+i*3,none⟩=some (.int .i64 l[i].1)∧w.cell? ⟨b,off+i*3+1,none⟩=some (.int .i64 l[i].2.1)∧w.cell? ⟨b,off+i*3+2,none⟩=some (.string l[i].2.2):=by
 obtain ⟨a',n',c',hv,CM,hn,CL,hc⟩:=h
 cases hv
 obtain ⟨A,hA,hs,ys,⟨c1,c2,rfl,h1,c3,c4,rfl,h2,h3⟩,B4⟩:=hc i l[i] (Ap hi)
 simp only [RepD] at h1 h2 h3
 subst h1;subst h2;subst h3
 obtain ⟨Ab,Ao,As⟩:=A
 dsimp only at hs
 subst hs
 subst hA
 exact ⟨CM.symm,hn,CL,Ab,Ao,rfl,(B4 0 _ rfl).1,(B4 0 _ rfl).2,(B4 1 _ rfl).2,(B4 2 _ rfl).2⟩
abbrev pick (all:List (Int×(Int×ByteArray))) (ps:List Int):List (Int×(Int×ByteArray)):=ps.map fun at_=>nth all at_ (0,(0,eB))
def Zpf (w:World) (all:List (Int×(Int×ByteArray))) (ps:List Int) (e:Ending) (w':World):Prop:=
 ∃ v,e = .returned (.tuple #[v, .int .i64 0])∧w'.ownsRow w.heap.size 45 3 v ps.length (JZ (pick all ps))∧Below w.heap.size w w'
end Go.Proofs.YtclpadlpcfnfmaaGreat.Am
end

section
/- sift.Gather walked by hand: the walk. -/
namespace Go.Proofs.YtclpadlpcfnfmaaGreat.Am
open Go.AM Go.AM.Pure Go.RowKit Go.Shelf Go.Lib
open Go.Proofs
attribute [local go_sem] Oper.semAt_some
set_option maxRecDepth 100000
theorem Zzh (w:World) (v0 v1 v2 v3:Value) (T:TypeId):∀ {w2:World},Below (w.alloc (.cells #[v0,v1,v2,v3] T)).heap.size (w.alloc (.cells #[v0,v1,v2,v3] T)) w2→
  w2.cell? ⟨w.heap.size,0,none⟩=some v0∧w2.cell? ⟨w.heap.size,1,none⟩=some v1∧w2.cell? ⟨w.heap.size,2,none⟩=some v2∧w2.cell? ⟨w.heap.size,3,none⟩=some v3:=by
 intro w2 hb
 have h:=(hb.block w.heap.size (by simp)).trans (heap_alloc_new w (.cells #[v0,v1,v2,v3] T))
 refine ⟨?_,?_,?_,?_⟩ <;> (rw [cell_of_row w2 _ _ _ _ _ h];rfl)
structure GG (w w2:World) (v0 v1 v2 v3 v6:Value) (W:World):Prop where
 below:Below w.heap.size w W
 below2:Below w2.heap.size w2 W
 x0:W.cell? ⟨w.heap.size,0,none⟩=some v0
 x1:W.cell? ⟨w.heap.size,1,none⟩=some v1
 x2:W.cell? ⟨w.heap.size,2,none⟩=some v2
 x3:W.cell? ⟨w.heap.size,3,none⟩=some v3
 x6:W.cell? ⟨w2.heap.size,0,none⟩=some v6
 l:w.heap.size<W.heap.size
 l6:w2.heap.size<W.heap.size
theorem GG.step {w w2:World} {v0 v1 v2 v3 v6:Value} {W W':World} (h:GG w w2 v0 v1 v2 v3 v6 W) (hb:Below W.heap.size W W'):GG w w2 v0 v1 v2 v3 v6 W':=
 ⟨h.below.trans (hb.mono h.below.size),h.below2.trans (hb.mono h.below2.size),(hb.cell (p:=⟨w.heap.size,0,none⟩) h.l).trans h.x0,(hb.cell (p:=⟨w.heap.size,1,none⟩) h.l).trans h.x1,(hb.cell (p:=⟨w.heap.size,2,none⟩) h.l).trans h.x2,(hb.cell (p:=⟨w.heap.size,3,none⟩) h.l).trans h.x3,
  (hb.cell (p:=⟨w2.heap.size,0,none⟩) h.l6).trans h.x6,Nat.lt_of_lt_of_le h.l hb.size,Nat.lt_of_lt_of_le h.l6 hb.size⟩
theorem NX.below {ok0:Nat→Nat→Prop} {w W:World} {x:Int×(List (Int×Int)×(List Int×List Int))} {V1 V2 V3:Value} (h:NX ok0 w x V1 V2 V3) (BE:∀ b o,ok0 b o→b<w.heap.size) (hb:Below w.heap.size w W):NX ok0 W x V1 V2 V3:=
 ⟨OK h.1 BE hb,OK h.2.1 BE hb,OK h.2.2 BE hb⟩
theorem Yrn {c:Prop} [Decidable c] {p q:Prop} (hc:c) (h:p):if c then p else q:=by rw [if_pos hc];exact h
theorem Ywt {all:List (Int×(Int×ByteArray))} {k:Nat} (hk:k<all.length):nth all (k:Int) (0,(0,eB))=all[k]:=by
 show all.getD k _=_
 rw [Ax,Ap hk]
 rfl
theorem Zm6 {F:Fence} {n:Nat} {P:Program} {o:Oper} {a:Act} {K:Act→World→Prop} {Q:Exit→Act→World→Prop} {W:World} {s x:Operand} {t tb e:TypeId} {i:TypeInfo} {z:Value} {size bytes n₀ B k:Nat} {v:Value} {xs news:List Value} {tmp:Obj}
  (L0:o.op=Op.call { callee:=Callee.builtin Builtin.append,args:=#[s,x],argTypes:=#[t,t] })
  (h1:P.underlying t=some (.slice e)) (h2:P.info? e=some i) (h3:i.zero=some z) (h4:i.size=size) (h5:i.bytes=bytes) (h6:z.cells.size=size) (h7:0<size)
  (hs:a.eval s=v) (hx:a.eval x = .slice (some ⟨W.heap.size,0,none⟩) 1 1) (hv:Boxed W B tb v) (hte:tb≠e) (ht6:tb≠67) (he6:e≠67) (BO:W.ownsRow n₀ e size v k xs) (hn₀:n₀≤W.heap.size) (hB:n₀≤B)
  (hn:news.length=1*size) (hc:∀ j u,news[j]? = some u→(W.alloc tmp).drew.cell? ((⟨W.heap.size,0,none⟩:Addr).add j)=some u) (h1c:∀ u∈news,u.oneCell'=true) (b1:k+1≤maxLen) (b2:(k+1)*bytes≤140737488355328)
  (hK:∀ g' CT w1,w1.cell? ⟨B,0,none⟩=some v→w1.frozen? ⟨B,0,none⟩=false→Boxed (w1.setCell ⟨B,0,none⟩ (.slice (some ⟨g',0,none⟩) (k+1) CT)) B tb (.slice (some ⟨g',0,none⟩) (k+1) CT)→
   (w1.setCell ⟨B,0,none⟩ (.slice (some ⟨g',0,none⟩) (k+1) CT)).ownsRow n₀ e size (.slice (some ⟨g',0,none⟩) (k+1) CT) (k+1) (xs++news)→KeepsOthers W (w1.setCell ⟨B,0,none⟩ (.slice (some ⟨g',0,none⟩) (k+1) CT))→
   Below n₀ W (w1.setCell ⟨B,0,none⟩ (.slice (some ⟨g',0,none⟩) (k+1) CT))→VM W (w1.setCell ⟨B,0,none⟩ (.slice (some ⟨g',0,none⟩) (k+1) CT))→K (a.put o.dst (.slice (some ⟨g',0,none⟩) (k+1) CT)) w1):
  o.wpIn F n P a (W.alloc tmp).drew K Q:=by
 obtain ⟨v',w1,BA,r1,r2,r3⟩:=run_append_own (P:=P) (W.alloc tmp).drew n₀ t o.type e i z size bytes h1 h2 h3 h4 h5 h6 h7 v k xs (show (W.alloc tmp).drew.ownsRow _ _ _ _ _ _ from BO.alloc tmp) ⟨W.heap.size,0,none⟩ 1 1 news hn hc h1c b1 b2
  (by show n₀≤(W.alloc tmp).heap.size;simp;omega)
 have r2':(W.drew.alloc tmp).grownBy w1 v.ownBlock:=r2
 obtain ⟨g',CT,rfl⟩:=ownsRow_succ r1
 obtain ⟨q1,q2,q3,q4,q5⟩:=(show Boxed W.drew _ _ _ from hv).appended hte (show W.drew.ownsRow _ _ _ _ _ _ from BO) hn₀ hB r1 r2'
 have q6:=Zuq (v':= .slice (some ⟨g',0,none⟩) (k+1) CT) (show Boxed W.drew _ _ _ from hv) ht6 (show W.drew.ownsRow _ _ _ _ _ _ from BO) he6 r2'
 unfold Oper.wpIn
 refine ⟨?_,?_⟩
 ·simp [Oper.about,L0,resolve,Target.leads,Sem.run_pure]
 ·rw [Oper.semAt_plain F _ _ (by rw [L0];intro c CP;cases CP)]
  simp [execOp,L0,resolve,invoke,builtin,hs,hx,BA,Result.andThen]
  exact hK g' CT w1 q1.cell q1.frozen q2 q3 ((KeepsOthers.drew W).trans q4) ((below_drewN (Below.refl _ W) 1).trans q5) q6
set_option maxHeartbeats 4000000 in
theorem Ztq {ok0:Nat→Nat→Prop} {a1 a2 a3:Option Addr} {l1 l2 l3 c1 c2 c3:Nat} (s:ByteArray) (x:Int×(List (Int×Int)×(List Int×List Int))) (all:List (Int×(Int×ByteArray))) (ps:List Int) (r c:Int) (w:World)
    (BE:∀ b o,ok0 b o→b<w.heap.size) (hr:NX ok0 w x (.slice a1 l1 c1) (.slice a2 l2 c2) (.slice a3 l3 c3)) (hT:Kj s=some (all,0)) (hR:KK x (AP all)=some r) (hC:KJ x=some c) (UC:¬ r<c)
    (hP:NG x=some ps) (CB:∀ p∈ps,0≤p∧p<(all.length:Int)) (Ek:ps.length≤4294967296):
    Calls Tryz.prog 12 #[.string s, .agg #[.int .i64 x.1, .slice a1 l1 c1, .slice a2 l2 c2, .slice a3 l3 c3]] w (Zpf w all ps):=by
  refine (callsIn_wide (n:=4)).1 ?_
  have C4:Fence.wide.round=none:=rfl
  obtain ⟨i0,I0,JS,KI,L3⟩:=info_parts Yxt
  have HR:=Lib.hid hr
  have HT:=Lib.hid hT
  have cZ:=Lib.hid hR
  have HC:=Lib.hid hC
  have HP:=Lib.hid hP
  have HI:=Lib.hid CB
  have HO:=Lib.hid BE
  have HL:=Lib.hid Ek
  clear hr hT hR hC hP CB BE Ek
  refine callsIn_of_wp_marks Tryz.func12 rfl trivial ?_ C4
  simp only [Tryz.ntmps12,List.size_toArray,Aj,List.length_nil,Nat.reduceAdd,Nat.reduceSub,Array.replicate_succ,Array.replicate_zero,List.push_toArray,List.append_toArray,AH,List.cons_append]
  have h1:1≤4:=by omega
  have CL:Tryz.prog.follows .mixedOrders=true:=by kernel_rfl
  gi_wp2_with (refine ⟨trivial,?_⟩;gi_at_call 39;refine (callsIn_wide.2 (fK s _ _ HT.out)).mono ?_;rintro e w2 ⟨⟨a,n,cc,BO,rfl⟩,Da⟩;obtain ⟨EB,Ha,H9,JX⟩:=Zzh w _ _ _ _ _ Da;have H1:=Lib.hid BO;have H2:=Lib.hid Da;clear BO Da)
  rename_i K1 hK1 K2 hK2
  have hn:n=all.length:=by
    obtain ⟨_,_,_,hv,hl,_⟩:=H1.out
    cases hv
    exact hl.symm
  subst hn
  have Bu:w.heap.size<w2.heap.size:=by have:=H2.out.size;simp at this;omega
  have HB:Below w.heap.size w w2:=((Below.refl _ w).alloc (Ah _) _).trans (H2.out.mono (by simp))
  have JR:GG w w2 (.int .i64 x.1) (.slice a1 l1 c1) (.slice a2 l2 c2) (.slice a3 l3 c3) (.slice a all.length cc) (w2.alloc (.cells #[.slice a all.length cc] 22)).drew:=
    ⟨below_drewN (HB.alloc (Nat.le_of_lt Bu) _) 1,below_drewN ((Below.refl _ w2).alloc (Ah _) _) 1,(World.cell?_alloc_lt w2 _ ⟨w.heap.size,0,none⟩ Bu).trans EB,(World.cell?_alloc_lt w2 _ ⟨w.heap.size,1,none⟩ Bu).trans Ha,(World.cell?_alloc_lt w2 _ ⟨w.heap.size,2,none⟩ Bu).trans H9,
      (World.cell?_alloc_lt w2 _ ⟨w.heap.size,3,none⟩ Bu).trans JX,by show (w2.alloc (.cells #[.slice a all.length cc] 22)).cell? _=_;rw [cell_of_row _ _ _ _ _ _ (heap_alloc_new w2 _)];rfl,by show w.heap.size<(w2.alloc _).heap.size;simp;omega,by show w2.heap.size<(w2.alloc _).heap.size;simp⟩
  clear EB Ha H9 JX
  obtain ⟨_,_,EB,Ha,H9,JX,Nt,_,_⟩:=id JR
  have HG:=Lib.hid JR
  have cY:=Lib.hid HB
  clear JR HB
  have Qz:∀ W5,GG w w2 (.int .i64 x.1) (.slice a1 l1 c1) (.slice a2 l2 c2) (.slice a3 l3 c3) (.slice a all.length cc) W5→Exit.then K2 (Exit.then K1 (bodyPostM Fence.wide 4 Tryz.prog Tryz.f12 (Zpf w all ps))) .normal
      { tmps := #[.string s, .agg #[.int .i64 x.1, .slice a1 l1 c1, .slice a2 l2 c2, .slice a3 l3 c3], undef, .pointer (some ⟨w.heap.size, 0, none⟩), .slice none 0 0, .int .i64 0, .pointer (some ⟨w2.heap.size, 0, none⟩), .int .i64 0, undef, undef,
          .tuple #[.slice a all.length cc, .int .i64 0], .string s, .tuple #[.slice a all.length cc, .int .i64 0], .slice a all.length cc, .int .i64 0, .int .i64 0, .bool false,undef, .agg #[.int .i64 x.1, .slice a1 l1 c1, .slice a2 l2 c2, .slice a3 l3 c3],
          .slice a all.length cc, .int .i64 (all.length:Int), .int .i64 r, .agg #[.int .i64 x.1, .slice a1 l1 c1, .slice a2 l2 c2, .slice a3 l3 c3], .int .i64 c, .bool (decide (r<c)),undef,undef,undef,undef,undef,undef,undef,undef,undef,undef,undef],defers:=[] } W5:=by
    intro W5 hG
    obtain ⟨XH,mD,EB,Ha,H9,JX,Nt,hl,nI⟩:=hG
    have Yt5:¬ r<c:=by omega
    have mF:(W5.alloc (.cells #[.slice none 0 0] 22)).cell? ⟨w.heap.size,0,none⟩=some (.int .i64 x.1):=(World.cell?_alloc_lt W5 _ ⟨w.heap.size,0,none⟩ hl).trans EB
    have Sy:(W5.alloc (.cells #[.slice none 0 0] 22)).cell? ⟨w.heap.size,1,none⟩=some (.slice a1 l1 c1):=(World.cell?_alloc_lt W5 _ ⟨w.heap.size,1,none⟩ hl).trans Ha
    have PN:(W5.alloc (.cells #[.slice none 0 0] 22)).cell? ⟨w.heap.size,2,none⟩=some (.slice a2 l2 c2):=(World.cell?_alloc_lt W5 _ ⟨w.heap.size,2,none⟩ hl).trans H9
    have hA3:(W5.alloc (.cells #[.slice none 0 0] 22)).cell? ⟨w.heap.size,3,none⟩=some (.slice a3 l3 c3):=(World.cell?_alloc_lt W5 _ ⟨w.heap.size,3,none⟩ hl).trans JX
    have Zai:Below w.heap.size w (W5.alloc (.cells #[.slice none 0 0] 22)):=XH.alloc XH.size _
    have h5:w.heap.size≤W5.heap.size:=XH.size
    have CE:=Zvq (ok0:=ok0) 3 (by omega) W5.heap.size x ps (W5.alloc (.cells #[.slice none 0 0] 22)) (by simp) (fun b o h=>Nat.lt_of_lt_of_le (HO.out b o h) h5) (HR.out.below HO.out Zai) HP.out HL.out
    have HPL:=Lib.hid CE
    clear CE
    gi_wp2_with (refine ⟨trivial,?_⟩;gi_at_call 42;refine (callsIn_wide.2 HPL.out).mono ?_;rintro e w7 ⟨g,lb,rfl,hb7,Zbi,Zci⟩;have H7:=Lib.hid hb7;have HE:=Lib.hid Zbi;have HS:=Lib.hid Zci;clear hb7 Zbi Zci)
    have c7:Below W5.heap.size W5 w7:=((Below.refl _ W5).alloc (Ah _) _).trans (H7.out.mono (by simp))
    have Db:Boxed w7 W5.heap.size 22 (.slice none 0 0):=(H7.out.block W5.heap.size (by simp)).trans (heap_alloc_new W5 _)
    have Zdi:Below w2.heap.size w2 w7:=mD.trans (c7.mono mD.size)
    have Uo:W5.heap.size<w7.heap.size:=by have:=H7.out.size;simp at this;omega
    refine wpIn_rangeFunc_ownG (α:={ y:Int // y∈ps }) C4 h1 (gf:=g) (lb:=lb) rfl trivial HE.out HS.out.stops (fun h k=>h.trans k) (Yo1 (Nat.le_of_lt Uo)) (Below.refl _ _) (fun _=>rfl)
      (fun pre W=>(∃ v,Boxed W W5.heap.size 22 v∧W.ownsRow W5.heap.size 45 3 v pre.length (JZ (pick all (pre.map (·.1))))∧True)∧Below W5.heap.size w7 W)
      (fun _ _ _=>False)
      (OwnFrom.and (Own.from (holdsRow_own W5.heap.size W5.heap.size 22 45 3 (fun pre:List { y:Int // y∈ps }=>pre.length) (fun pre=>JZ (pick all (pre.map (·.1)))) (fun _ _=>True)) _) (ownFrom_below (Nat.le_of_lt Uo) (Nat.le_of_lt Uo)))
      (fun _ _ _ _ _ hs _ _=>hs)
      ⟨⟨_,Db,World.ownsRow_nil _ _ _ _,trivial⟩,Below.refl _ _⟩
      (fun y => { tmps := #[.string s, .agg #[.int .i64 x.1, .slice a1 l1 c1, .slice a2 l2 c2, .slice a3 l3 c3], undef, .pointer (some ⟨w.heap.size, 0, none⟩), .slice none 0 0, .int .i64 0, .pointer (some ⟨w2.heap.size, 0, none⟩), .int .i64 0, .pointer (some ⟨W5.heap.size, 0, none⟩), .int .i64 y.1,
          .tuple #[.slice a all.length cc, .int .i64 0], .string s, .tuple #[.slice a all.length cc, .int .i64 0], .slice a all.length cc, .int .i64 0, .int .i64 0, .bool false,undef, .agg #[.int .i64 x.1, .slice a1 l1 c1, .slice a2 l2 c2, .slice a3 l3 c3],
          .slice a all.length cc, .int .i64 (all.length:Int), .int .i64 r, .agg #[.int .i64 x.1, .slice a1 l1 c1, .slice a2 l2 c2, .slice a3 l3 c3], .int .i64 c, .bool (decide (r<c)), .agg #[.int .i64 x.1, .slice a1 l1 c1, .slice a2 l2 c2, .slice a3 l3 c3],
          .func (.func g) #[] lb, .int .i64 y.1,undef,undef,undef,undef,undef,undef,undef,undef],defers:=[] }) ?assign ?body ?done ?stop
    case assign=>
      intro l y W K hK
      simp only [encI]
      gi_wp2
      exact hK
    case body=>
      rintro l pre ⟨y,hy⟩ W ⟨⟨v,hv,BO,hT0⟩,hB⟩ AO
      obtain ⟨MB,Ut⟩:=HI.out y hy
      obtain ⟨k,rfl⟩:=Int.eq_ofNat_of_zero_le MB
      have hk:k<all.length:=by omega
      obtain ⟨_,Ct,Kf,b,off,rfl,MF,cw,cx,PM⟩:=Zn6 H1.out hk
      have Da:b<w2.heap.size:=by
        rcases MF with h | h
        · exact h.elim
        · exact h.2
      have c8:Below w2.heap.size w2 W:=Zdi.trans (hB.mono (Nat.le_trans (Nat.le_of_lt nI) (Ah _)))
      have Ki:W.cell? ⟨b,off+k*3,none⟩=some (.int .i64 all[k].1):=(c8.cell (p:=⟨b,off+k*3,none⟩) Da).trans cw
      have Lk:W.cell? ⟨b,off+k*3+1,none⟩=some (.int .i64 all[k].2.1):=(c8.cell (p:=⟨b,off+k*3+1,none⟩) Da).trans cx
      have IA:W.cell? ⟨b,off+k*3+2,none⟩=some (.string all[k].2.2):=(c8.cell (p:=⟨b,off+k*3+2,none⟩) Da).trans PM
      have h6W:W.cell? ⟨w2.heap.size,0,none⟩=some (.slice (some ⟨b,off,none⟩) all.length cc):=(hB.cell (p:=⟨w2.heap.size,0,none⟩) nI).trans ((c7.cell (p:=⟨w2.heap.size,0,none⟩) nI).trans Nt)
      have hc:=hv.cell
      have Ym5:pre.length<4294967296:=Nat.lt_of_lt_of_le AO HL.out
      have B2:(W.alloc (.cells #[.int .i64 all[k].1, .int .i64 all[k].2.1, .string all[k].2.2] 45)).cell? ⟨W5.heap.size,0,none⟩=some v:=(World.cell?_alloc_lt W _ ⟨W5.heap.size,0,none⟩ hv.lt).trans hc
      have HV:=Lib.hid hv
      have HW:=Lib.hid BO
      have HBB:=Lib.hid hB
      clear hv BO hB cw cx PM c8
      gi_wp2
      rename_i Q2 hQ2
      clear hT0 HR HT cZ HC HP HO H2 cY XH mD mF Sy PN hA3 Zai HPL HE HS H7 Db Zdi c7
      have ca:∀ {a:Act} {K:Act→World→Prop} {o:Oper},o.op=Op.call { callee:=Callee.builtin Builtin.append,args:=#[.tmp 28, .tmp 33],argTypes:=#[22,22] }→a.eval (.tmp 28)=v→a.eval (.tmp 33) = .slice (some ⟨W.heap.size,0,none⟩) 1 1→(∀ (g' CT:Nat) (w1:World),w1.cell? ⟨W5.heap.size,0,none⟩=some v→w1.frozen? ⟨W5.heap.size,0,none⟩=false→Boxed (w1.setCell ⟨W5.heap.size,0,none⟩ (.slice (some ⟨g',0,none⟩) (pre.length+1) CT)) W5.heap.size 22 (.slice (some ⟨g',0,none⟩) (pre.length+1) CT)→World.ownsRow (w1.setCell ⟨W5.heap.size,0,none⟩ (.slice (some ⟨g',0,none⟩) (pre.length+1) CT)) W5.heap.size 45 3 (.slice (some ⟨g',0,none⟩) (pre.length+1) CT) (pre.length+1) (JZ (pick all (pre.map (·.1)))++K6 all[k])→KeepsOthers W (w1.setCell ⟨W5.heap.size,0,none⟩ (.slice (some ⟨g',0,none⟩) (pre.length+1) CT))→Below W5.heap.size W (w1.setCell ⟨W5.heap.size,0,none⟩ (.slice (some ⟨g',0,none⟩) (pre.length+1) CT))→VM W (w1.setCell ⟨W5.heap.size,0,none⟩ (.slice (some ⟨g',0,none⟩) (pre.length+1) CT))→K (a.put o.dst (.slice (some ⟨g',0,none⟩) (pre.length+1) CT)) w1)→o.wpIn (Fence.wide.inRound l) 2 Tryz.prog a (W.alloc (.cells #[.int .i64 all[k].1, .int .i64 all[k].2.1, .string all[k].2.2] 45)).drew K (Exit.inBlock 1 Q2):=fun ho hs hx hK=>
        Zm6 ho Tryz.underlying22 I0 JS KI L3 rfl (by decide) hs hx HV.out (by decide) (by decide) (by decide) HW.out (by have:=HBB.out.size;omega) (Ah _) (news:=K6 all[k]) rfl (Zo6 (T:=45) (y:=(0,0)) (heap_alloc_new W _)) (Zbv _) (by unfold maxLen;omega) (by omega) hK
      have lX:∀ (a:Act) g' CT W',Boxed W' W5.heap.size 22 (.slice (some ⟨g',0,none⟩) (pre.length+1) CT)→W'.ownsRow W5.heap.size 45 3 (.slice (some ⟨g',0,none⟩) (pre.length+1) CT) (pre.length+1) (JZ (pick all (pre.map (·.1)))++K6 all[k])→KeepsOthers W W'→Below W5.heap.size W W'→VM W W'→Exit.inBlock 1 Q2 .normal a W':=by
        intro a g' CT W' I1 I2 I3 I4 I5
        have bB:W'.ownsRow W5.heap.size 45 3 (.slice (some ⟨g',0,none⟩) (pre.length+1) CT) (pre++[(⟨(k:Int),hy⟩:{ y:Int // y∈ps })]).length (JZ (pick all ((pre++[(⟨(k:Int),hy⟩:{ y:Int // y∈ps })]).map (·.1)))):=by
          rw [Ae,AE,pick,AE,List.map_singleton,List.map_singleton,Ywt hk,Zgl]
          exact I2
        exact ⟨I3.from _,⟨I4,I5⟩,⟨_,I1,bB,trivial⟩,HBB.out.trans I4⟩
      refine wpIn_region_any CL ?_
      try (change wpAnyIn _ _ _ _ _ _ _ _ _ (World.drew _))
      all_goals
        first
          | refine wpAnyIn_ready (rs:=[0,1,2]) (by decide +kernel) (by simp) ?_
        repeat' (first | exact AllReadyIn.nil | refine AllReadyIn.cons rfl (fun K hK=>?_) ?_)
        all_goals (go_simp;refine hK _ _ ?_;clear hK K)
      all_goals
        first
          | refine wpAnyIn_ready (rs:=[1,2]) (by decide +kernel) (by simp) ?_
          | refine wpAnyIn_ready (rs:=[0,2]) (by decide +kernel) (by simp) ?_
          | refine wpAnyIn_ready (rs:=[0,1]) (by decide +kernel) (by simp) ?_
        repeat' (first | exact AllReadyIn.nil | refine AllReadyIn.cons rfl (fun K hK=>?_) ?_)
        all_goals (go_simp;refine hK _ _ ?_;clear hK K)
      all_goals
        first
          | refine wpAnyIn_ready (rs:=[2]) (by decide +kernel) (by simp) ?_
          | refine wpAnyIn_ready (rs:=[1]) (by decide +kernel) (by simp) ?_
          | refine wpAnyIn_ready (rs:=[0,3]) (by decide +kernel) (by simp) ?_
        repeat' (first | exact AllReadyIn.nil | refine AllReadyIn.cons rfl (fun K hK=>?_) ?_)
        all_goals (go_simp;refine hK _ _ ?_;clear hK K)
      all_goals
        first
          | refine wpAnyIn_ready (rs:=[3]) (by decide +kernel) (by simp) ?_
          | refine wpAnyIn_ready (rs:=[0,4]) (by decide +kernel) (by simp) ?_
        repeat' (first | exact AllReadyIn.nil | refine AllReadyIn.cons rfl (fun K hK=>?_) ?_)
        all_goals (go_simp;refine hK _ _ ?_;clear hK K)
      all_goals
        first
          | refine wpAnyIn_ready (rs:=[4]) (by decide +kernel) (by simp) ?_
          | refine wpAnyIn_ready (rs:=[0,5]) (by decide +kernel) (by simp) ?_
        repeat' (first | exact AllReadyIn.nil | refine AllReadyIn.cons rfl (fun K hK=>?_) ?_)
        all_goals (go_simp;refine hK _ _ ?_;clear hK K)
      all_goals
        first
          | refine wpAnyIn_ready (rs:=[5]) (by decide +kernel) (by simp) ?_
          | refine wpAnyIn_ready (rs:=[0]) (by decide +kernel) (by simp) ?_
        repeat' (first | exact AllReadyIn.nil | refine AllReadyIn.cons rfl (fun K hK=>?_) ?_)
        all_goals (go_simp;refine hK _ _ ?_;clear hK K)
      all_goals
        refine wpAnyIn_ready (rs:=[6]) (by kernel_rfl) (by simp) ?_
        refine AllReadyIn.cons rfl (fun K hK=>Yrn (by kernel_rfl) ?_) AllReadyIn.nil
        refine ca (by rfl) (by rfl) (by rfl) fun g' CT w1 H8 nJ I1 I2 I3 I4 I5=>?_
        refine hK _ _ ?_
        clear hK K ca
        refine wpAnyIn_ready (rs:=[7]) (by kernel_rfl) (by simp) ?_
        refine AllReadyIn.cons rfl (fun K hK=>?_) AllReadyIn.nil
        go_simp
        refine hK _ _ ?_
        clear hK K
        refine wpAnyIn_done (by kernel_rfl) ?_ _
        exact lX _ g' CT _ I1 I2 I3 I4 I5
    case done=>
      rintro D ys W hD nt ⟨⟨v,hv,BO,_⟩,hB⟩ hK
      have hc:=hv.cell
      have HB9:Below w.heap.size w W:=(XH.trans (c7.mono h5)).trans (hB.mono h5)
      have hlen:ys.length=ps.length:=by have:=congrArg List.length nt;simpa using this
      rw [nt,hlen] at BO
      have HW:=Lib.hid BO
      have HB3:=Lib.hid HB9
      clear BO hB HB9 hv
      gi_wp2
      refine ⟨by simp, .inl ⟨_,_,rfl,run_takeDeferred hK,?_⟩⟩
      refine ⟨_,results_tmp2 rfl _ _ _,v,rfl,ownsRow_putObj (zW HW.out h5) _ hK rfl,HB3.out.trans (belowK_b (w:=w7) (Nat.le_trans h5 (Nat.le_of_lt Uo)) W D _ _ hD hK rfl rfl)⟩
    case stop=>
      rintro D c pre W _ _ h _
      exact h.elim
  first | gi_region_with_o (first
    | (refine ⟨trivial,?_⟩;gi_at_call 40;refine (callsIn_wide.2 (ta x (AP all) r _ (fun b o h=>Nat.lt_of_lt_of_le (HO.out b o h) HG.out.below.size) (HR.out.below HO.out HG.out.below) cZ.out)).mono ?_;rintro e w5 ⟨rfl,Lq⟩;replace HG:=Lib.hid (HG.out.step Lq);clear Lq EB Ha H9 JX Nt;obtain ⟨_,_,EB,Ha,H9,JX,Nt,_,_⟩:=id HG.out)
    | (refine ⟨trivial,?_⟩;gi_at_call 41;refine (callsIn_wide.2 (qT x c _ (fun b o h=>Nat.lt_of_lt_of_le (HO.out b o h) HG.out.below.size) (HR.out.below HO.out HG.out.below) HC.out)).mono ?_;rintro e w5 ⟨rfl,Lq⟩;replace HG:=Lib.hid (HG.out.step Lq);clear Lq EB Ha H9 JX Nt;obtain ⟨_,_,EB,Ha,H9,JX,Nt,_,_⟩:=id HG.out)) | fail
  all_goals exact Qz _ HG.out
end Go.Proofs.YtclpadlpcfnfmaaGreat.Am
end

section
/- sift.Gather: its contract. -/
namespace Go.Proofs.YtclpadlpcfnfmaaGreat.Am
open Go.AM Go.AM.Pure Go.RowKit Go.Shelf Go.Lib
open Go.Proofs
attribute [local go_sem] Oper.semAt_some
set_option maxRecDepth 100000
def GNo (w:World) (n:Int) (e:Ending) (w':World):Prop:=e = .returned (.tuple #[.slice none 0 0, .int .i64 n])∧Below w.heap.size w w'
set_option maxHeartbeats 2000000 in
theorem Zav {a1 a2 a3:Option Addr} {l1 l2 l3 c1 c2 c3:Nat} (s:ByteArray) (x1:Int) (all:List (Int×(Int×ByteArray))) (er:Int) (w:World) (hT:Kj s=some (all,er)) (he:¬ er=0):
  Calls Tryz.prog 12 #[.string s, .agg #[.int .i64 x1, .slice a1 l1 c1, .slice a2 l2 c2, .slice a3 l3 c3]] w (GNo w er):=by
 refine (callsIn_wide (n:=4)).1 ?_
 have C4:Fence.wide.round=none:=rfl
 have HT:=Lib.hid hT
 clear hT
 refine callsIn_of_wp Tryz.func12 rfl trivial ?_ C4
 simp only [Tryz.ntmps12,List.size_toArray,Aj,List.length_nil,Nat.reduceAdd,Nat.reduceSub,Array.replicate_succ,Array.replicate_zero,List.push_toArray,List.append_toArray,AH,List.cons_append]
 gi_wp2_with (refine ⟨trivial,?_⟩;gi_at_call 39;refine (callsIn_wide.2 (fK s _ _ HT.out)).mono ?_;rintro e w2 ⟨⟨a,n,cc,BO,rfl⟩,Da⟩;have H2:=Lib.hid Da;clear BO Da)
 refine bodyPost_ret (results_tmp2 rfl _ _ _) rfl ?_
 have HB:Below w.heap.size w w2:=((Below.refl _ w).alloc (Ah _) _).trans (H2.out.mono (by simp))
 exact ⟨rfl,HB.alloc HB.size _⟩
set_option maxHeartbeats 4000000 in
theorem Zzn {ok0:Nat→Nat→Prop} {a1 a2 a3:Option Addr} {l1 l2 l3 c1 c2 c3:Nat} (s:ByteArray) (x:Int×(List (Int×Int)×(List Int×List Int))) (all:List (Int×(Int×ByteArray))) (r c:Int) (w:World)
  (BE:∀ b o,ok0 b o→b<w.heap.size) (hr:NX ok0 w x (.slice a1 l1 c1) (.slice a2 l2 c2) (.slice a3 l3 c3)) (hT:Kj s=some (all,0)) (hR:KK x (AP all)=some r) (hC:KJ x=some c) (UC:r<c):
  Calls Tryz.prog 12 #[.string s, .agg #[.int .i64 x.1, .slice a1 l1 c1, .slice a2 l2 c2, .slice a3 l3 c3]] w (GNo w 3):=by
 refine (callsIn_wide (n:=4)).1 ?_
 have C4:Fence.wide.round=none:=rfl
 have HR:=Lib.hid hr
 have HT:=Lib.hid hT
 have cZ:=Lib.hid hR
 have HC:=Lib.hid hC
 have HO:=Lib.hid BE
 clear hr hT hR hC BE
 refine callsIn_of_wp Tryz.func12 rfl trivial ?_ C4
 simp only [Tryz.ntmps12,List.size_toArray,Aj,List.length_nil,Nat.reduceAdd,Nat.reduceSub,Array.replicate_succ,Array.replicate_zero,List.push_toArray,List.append_toArray,AH,List.cons_append]
 have h1:1≤4:=by omega
 have CL:Tryz.prog.follows .mixedOrders=true:=by kernel_rfl
 gi_wp2_with (refine ⟨trivial,?_⟩;gi_at_call 39;refine (callsIn_wide.2 (fK s _ _ HT.out)).mono ?_;rintro e w2 ⟨⟨a,n,cc,BO,rfl⟩,Da⟩;obtain ⟨EB,Ha,H9,JX⟩:=Zzh w _ _ _ _ _ Da;have H1:=Lib.hid BO;have H2:=Lib.hid Da;clear BO Da)
 have hn:n=all.length:=by
  obtain ⟨_,_,_,hv,hl,_⟩:=H1.out
  cases hv
  exact hl.symm
 subst hn
 have Bu:w.heap.size<w2.heap.size:=by have:=H2.out.size;simp at this;omega
 have HB:Below w.heap.size w w2:=((Below.refl _ w).alloc (Ah _) _).trans (H2.out.mono (by simp))
 have JR:GG w w2 (.int .i64 x.1) (.slice a1 l1 c1) (.slice a2 l2 c2) (.slice a3 l3 c3) (.slice a all.length cc) (w2.alloc (.cells #[.slice a all.length cc] 22)).drew:=
  ⟨below_drewN (HB.alloc (Nat.le_of_lt Bu) _) 1,below_drewN ((Below.refl _ w2).alloc (Ah _) _) 1,(World.cell?_alloc_lt w2 _ ⟨w.heap.size,0,none⟩ Bu).trans EB,(World.cell?_alloc_lt w2 _ ⟨w.heap.size,1,none⟩ Bu).trans Ha,(World.cell?_alloc_lt w2 _ ⟨w.heap.size,2,none⟩ Bu).trans H9,
   (World.cell?_alloc_lt w2 _ ⟨w.heap.size,3,none⟩ Bu).trans JX,by show (w2.alloc (.cells #[.slice a all.length cc] 22)).cell? _=_;rw [cell_of_row _ _ _ _ _ _ (heap_alloc_new w2 _)];rfl,by show w.heap.size<(w2.alloc _).heap.size;simp;omega,by show w2.heap.size<(w2.alloc _).heap.size;simp⟩
 clear EB Ha H9 JX
 obtain ⟨_,_,EB,Ha,H9,JX,Nt,_,_⟩:=id JR
 have HG:=Lib.hid JR
 clear JR HB
 gi_region_with_o (first
  | (refine ⟨trivial,?_⟩;gi_at_call 40;refine (callsIn_wide.2 (ta x (AP all) r _ (fun b o h=>Nat.lt_of_lt_of_le (HO.out b o h) HG.out.below.size) (HR.out.below HO.out HG.out.below) cZ.out)).mono ?_;rintro e w5 ⟨rfl,Lq⟩;replace HG:=Lib.hid (HG.out.step Lq);clear Lq EB Ha H9 JX Nt;obtain ⟨_,_,EB,Ha,H9,JX,Nt,_,_⟩:=id HG.out)
  | (refine ⟨trivial,?_⟩;gi_at_call 41;refine (callsIn_wide.2 (qT x c _ (fun b o h=>Nat.lt_of_lt_of_le (HO.out b o h) HG.out.below.size) (HR.out.below HO.out HG.out.below) HC.out)).mono ?_;rintro e w5 ⟨rfl,Lq⟩;replace HG:=Lib.hid (HG.out.step Lq);clear Lq EB Ha H9 JX Nt;obtain ⟨_,_,EB,Ha,H9,JX,Nt,_,_⟩:=id HG.out))
 all_goals gi_wp2
 all_goals
  refine bodyPost_ret (results_tmp2 rfl _ _ _) rfl ?_
  exact ⟨rfl,HG.out.below⟩
theorem Zrq {ok:Nat→Nat→Prop} {w:World} (l:List (Int×(Int×ByteArray))):IE ok w QH l (JZ l):=by
 refine ⟨Zfl l,fun i x hi=>⟨K6 x,⟨[.int .i64 x.1],_,rfl,rfl,[.int .i64 x.2.1],[.string x.2.2],rfl,rfl,rfl⟩,fun j u hj=>?_⟩⟩
 induction l generalizing i with
 | nil=>cases hi
 | cons a l ih=>
  have hj3:j<3:=(List.getElem?_eq_some_iff.1 hj).1
  cases i with
  | zero=>
   have hax:a=x:=by simpa using hi
   subst hax
   show (K6 a++JZ l)[0*3+j]? = some u
   rw [Nat.zero_mul,Au,AD hj3]
   exact hj
  | succ i=>
   have:=ih i (by simpa using hi)
   show (K6 a++JZ l)[(i+1)*3+j]? = some u
   rw [Aw (by show 3≤_;omega),show (i+1)*3+j-(K6 a).length=i*3+j by show _-3=_;omega]
   exact this
theorem eV {ok0:Nat→Nat→Prop} {w w':World} {v:Value} {l:List (Int×(Int×ByteArray))} {n:Int} (ho:w'.ownsRow w.heap.size 45 3 v l.length (JZ l)):
  ∃ us,N5 (SJ ok0 w w') w' (IG [.sl QH, .int .i64]) (l,n) us∧Ending.returned (.tuple #[v, .int .i64 n]) = .returned (QU us):=
 ⟨[v, .int .i64 n],⟨[v],[.int .i64 n],rfl,Zk (e:=QH) ho (Zrq l) fun b o h1 h2=> .inr ⟨h1,h2⟩,[.int .i64 n],rfl,rfl⟩,rfl⟩
@[reducible] def du : AM.Spec := AM.spec [.val .str, .val T1] [(.sl QH, []), (.int .i64, [])] (fun x => Qb x.1 x.2.1)
theorem ot:AY Tryz.prog 12 du:=
 Vx (ps:=[.str,T1]) (rs:=[.sl QH, .int .i64]) fun x y hF ok0 w vs z hz BE ha=>by
  obtain ⟨cs,r,rfl,hr,cs2,r2,rfl,IA,Ki⟩:=ha
  cases Ki
  simp only [RepD] at hr
  subst hr
  obtain ⟨a1,n1,c1,a2,n2,c2,a3,n3,c3,rfl,hL⟩:=Zsq IA
  obtain ⟨s,l,u⟩:=x
  have hF:Qb s l=some y:=hF
  unfold Qb at hF
  cases hT:Kj s with
  | none=>rw [hT] at hF;cases hF
  | some t=>
   rw [hT] at hF
   dsimp only [Option.bind] at hF
   obtain ⟨all,e⟩:=t
   by_cases he:e=0
   ·subst he
    rw [show By ((all,(0:Int)).2) 0=false from rfl] at hF
    dsimp only [cond] at hF
    cases hR:KK l (AP all) with
    | none=>rw [hR] at hF;cases hF
    | some r=>
     rw [hR] at hF
     dsimp only at hF
     cases hC:KJ l with
     | none=>rw [hC] at hF;cases hF
     | some c=>
      rw [hC] at hF
      dsimp only at hF
      by_cases UC:r<c
      ·rw [show AS r c=true from Af UC] at hF
       cases hF
       refine (Zzn s l all r c w BE hL hT hR hC UC).mono ?_
       rintro e w' ⟨rfl,hb⟩
       exact ⟨eV (l:=[]) (World.ownsRow_nil _ _ _ _),hb⟩
      ·rw [show AS r c=false from An UC] at hF
       dsimp only [cond] at hF
       cases hP:NG l with
       | none=>rw [hP] at hF;cases hF
       | some ps=>
        rw [hP] at hF
        dsimp only at hF
        cases hg:(ps.all fun at_=>AX at_ (AP all)) && decide (ps.length≤4294967296) with
        | false=>rw [hg] at hF;cases hF
        | true=>
         rw [hg] at hF
         cases hF
         rw [Bool.and_eq_true,List.all_eq_true] at hg
         refine (Ztq s l all ps r c w BE hL hT hR hC UC hP (fun p hp=>?_) (Ak hg.2)).mono ?_
         ·have:=hg.1 p hp
          unfold AX at this
          rw [Bool.and_eq_true] at this
          exact ⟨Ak this.1,Ak this.2⟩
         ·rintro e w' ⟨v,rfl,ho,hb⟩
          have Ot:w'.ownsRow w.heap.size 45 3 v (pick all ps).length (JZ (pick all ps)):=by rw [Ai];exact ho
          exact ⟨eV Ot,hb⟩
   ·rw [show By (all,e).2 0=true from bne_iff_ne.2 he] at hF
    cases hF
    refine (Zav s l.1 all e w hT he).mono ?_
    rintro e1 w' ⟨rfl,hb⟩
    exact ⟨eV (l:=[]) (World.ownsRow_nil _ _ _ _),hb⟩
end Go.Proofs.YtclpadlpcfnfmaaGreat.Am
end

section
/- dict.Of of numbers, of none too. -/
namespace Go.Proofs.YtclpadlpcfnfmaaGreat.Am
open Go.AM Go.AM.Pure Go.RowKit Go.Shelf Go.Lib
open Go.Proofs
set_option maxRecDepth 100000
def Yn1 (w:World) (e:Ending) (w':World):Prop:=∃ v,e = .returned (.tuple #[v, .slice none 0 0])∧w'.ownsRow w.heap.size 3 1 v 0 []∧Below w.heap.size w w'
set_option maxHeartbeats 2000000 in
theorem of_nil {ok0:Nat→Nat→Prop} (a:Option Addr) (cap:Nat) (w:World) (hr:RepD ok0 w (.sl (.int .i64)) ([]:List Int) [.slice a 0 cap]):Calls Tryz.prog 95 #[.slice a 0 cap] w (Yn1 w):=by
 have H8:=pS (.slice a 0 cap) [] w hr (by simp)
 have HC:=Lib.hid H8
 clear H8 hr
 go_enter Tryz.func95,Tryz.ntmps95
 go_wp2_with fail
 refine HC.out.mono ?_
 rintro e w1 ⟨v,rfl,ho,hb⟩
 have hs:=s9 w.heap.size v [] w1 hb.size (by simp) ho
 have hv:v = .slice none 0 0∨∃ g c,v = .slice (some ⟨g,0,none⟩) 0 c:=by
  rcases ho.2 with ⟨h,_⟩ | ⟨g,c,_,h,_⟩
  ·exact .inl h
  ·exact .inr ⟨g,c,h⟩
 have HS:=Lib.hid hs
 have HB:=Lib.hid hb
 clear hs ho hb HC
 go_wp2_with fail
 refine HS.out.mono ?_
 rintro e w2 ⟨rfl,UB,Da⟩
 rw [List.mergeSort_nil] at UB
 have HO:=Lib.hid UB
 have cY:=Lib.hid (HB.out.trans Da)
 clear UB Da HS HB
 rcases hv with rfl | ⟨g,c,rfl⟩
 ·go_wp2
  refine wp_loop_rounds 1 ?_
  rw [rounds_succ]
  go_wp2
  go_ret2
  exact ⟨_,rfl,HO.out,cY.out⟩
 ·go_wp2
  refine wp_loop_rounds 1 ?_
  rw [rounds_succ]
  go_wp2
  go_ret2
  exact ⟨_,rfl,HO.out,cY.out⟩
@[reducible] def oT : AM.Spec := AM.spec [.val (.sl (.int .i64))] [(.sl (.int .i64), []), (.sl (.int .i64), [])] (fun x => Y7 x.1)
theorem Zaq:AY Tryz.prog 95 oT:=
 Vx (ps:=[.sl (.int .i64)]) (rs:=[.sl (.int .i64), .sl (.int .i64)]) fun x y hF ok0 w vs z hz BE ha=>by
  obtain ⟨l,u⟩:=x
  cases l with
  | nil=>
   obtain ⟨cs,r,rfl,hr,Ki⟩:=ha
   cases Ki
   have hF:some (([]:List Int),([]:List Int))=some y:=hF
   cases hF
   obtain ⟨a,n,cap,rfl,CM,Qz⟩:=hr
   have hn:n=0:=by rw [← CM];rfl
   subst hn
   refine (of_nil a cap w ⟨a,0,cap,rfl,CM,Qz⟩).mono ?_
   rintro e w' ⟨v,rfl,ho,hb⟩
   exact ⟨⟨[v, .slice none 0 0],⟨[v],[.slice none 0 0],rfl,Zk (e:= .int .i64) (l:=([]:List Int)) ho ⟨rfl,fun i x hi=>by cases hi⟩ fun b o h1 h2=> .inr ⟨h1,h2⟩,[.slice none 0 0],rfl,
    ⟨none,0,0,rfl,rfl,Ah _,Nat.zero_le _,fun i x hi=>by cases hi⟩⟩,rfl⟩,hb⟩
  | cons a l=>
   have hF:EV (a :: l)=some y:=hF
   exact Tv (ps:=[.sl (.int .i64)]) (rs:=[(.sl (.int .i64),[]),(.sl (.int .i64),[⟨0,1,0,1⟩])]) (x:=(a :: l,())) (y:=y) (F:=fun x=>EV x.1) Zof hF hz BE ha
end Go.Proofs.YtclpadlpcfnfmaaGreat.Am
end
