import Derived.Maps.AppendAt
import Derived.Shelf.RegionOpen
import Derived.Test.YtclpadlpcfnfmaaGreatSHandG
import Derived.Sort.QuietIn
section
/- sift.Gather walked by hand. -/
namespace Go.Proofs.YtclpadlpcfnfmaaGreat.Am
open Go.AM Go.AM.Pure Go.RowKit Go.Shelf Go.Lib
open Go.Proofs
attribute [local go_sem] Oper.semAt_some
set_option maxRecDepth 100000
def Jw (c:Int×(Int×ByteArray)):List Value:=[.int .i64 c.1, .int .i64 c.2.1, .string c.2.2]
def ES (l:List (Int×(Int×ByteArray))):List Value:=l.flatMap Jw
theorem Zr8:(Tryz.prog.info? 45).map (fun i=>(i.zero,i.size,i.bytes))=some (some (.agg #[.int .i64 0, .int .i64 0, .string ⟨#[]⟩]),3,32):=by kernel_rfl
theorem cv (l:List (Int×(Int×ByteArray))):(ES l).length=l.length*3:=by
 induction l with
 | nil=>rfl
 | cons a l ih=>simp [ES,Jw] at ih ⊢;omega
theorem cw (l:List (Int×(Int×ByteArray))) (c:Int×(Int×ByteArray)):ES (l++[c])=ES l++Jw c:=by simp [ES]
theorem wz (c:Int×(Int×ByteArray)):∀ u∈Jw c,u.oneCell'=true:=by
 intro u hu
 simp [Jw] at hu
 rcases hu with rfl | rfl | rfl <;> rfl
theorem Zdi {w:World} {b:Nat} {c:Int×(Int×ByteArray)} {T:TypeId} {y:Nat×Nat} (h:w.heap[b]? = some (.cells #[.int .i64 c.1, .int .i64 c.2.1, .string c.2.2] T y)):∀ (j:Nat) (u:Value),(Jw c)[j]? = some u→w.cell? ((⟨b,0,none⟩:Addr).add j)=some u:=by
 intro j u hj
 rw [Addr.add_lit,Nat.zero_add,cell_of_row w b j _ T y h,← hj]
 simp [Jw]
theorem rW {W w1:World} {n0 B t e size k:Nat} {v v':Value} {xs:List Value} {tmp:Obj} (hv:Boxed W B t v) (ht:t≠67) (hrow:W.ownsRow n0 e size v k xs) (he:e≠67) (hgrow:(W.alloc tmp).grownBy w1 v.ownBlock):
  Te W (w1.setCell ⟨B,0,none⟩ v'):=by
 intro i cur y hi
 have hlt:=(Array.getElem?_eq_some_iff.1 hi).1
 have hB:i≠B:=by
  rintro rfl
  have:=(show W.heap[i]? = _ from hv).symm.trans hi
  cases this
  exact ht rfl
 have hne:some i≠v.ownBlock:=by
  rcases hrow.2 with ⟨rfl,_⟩ | ⟨g,cap,cr,rfl,_,hgb,_⟩
  ·simp [Value.ownBlock]
  ·intro e'
   have:i=g:=by simpa [Value.ownBlock] using e'
   subst this
   rw [hgb] at hi
   cases hi
   exact he rfl
 have h1:=(hgrow.block i (by simp;omega) hne).trans ((Below.heap_alloc W tmp i hlt).trans hi)
 exact (Below.heap_setCell _ _ _ i hB).trans h1
theorem Zhf1 {n₀:Nat} {w:World} (hn:n₀≤w.heap.size):∀ (W:World) (l:Nat) (o o':Obj),w.heap.size≤l→W.heap[l]? = some o→o.isCells=false→o.isWalk=false→KpG n₀ W (W.putObj l o'):=by
 intro W l o o' hl ho hc hw
 refine ⟨belowK_b (w:=w) hn W l o o' hl ho hc hw,fun i cur y hi=>?_⟩
 have:i≠l:=by
  rintro rfl
  rw [hi] at ho
  cases ho
  cases hc
 exact (World.putObj_heap_other this).trans hi
theorem Zei {ok:Nat→Nat→Prop} {w:World} {l:List (Int×(Int×ByteArray))} {a:Option Addr} {n c:Nat} (h:RepD ok w (.sl PD) l [.slice a n c]) {i:Nat} (hi:i<l.length):
  n=l.length∧n≤c∧c≤maxLen∧∃ b off,a=some ⟨b,off,none⟩∧ok b (off+i*3)∧w.cell? ⟨b,off+i*3,none⟩=some (.int .i64 l[i].1)∧w.cell? ⟨b,off+i*3+1,none⟩=some (.int .i64 l[i].2.1)∧w.cell? ⟨b,off+i*3+2,none⟩=some (.string l[i].2.2):=by
 obtain ⟨a',n',c',hv,hln,hn,hmx,hc⟩:=h
 cases hv
 obtain ⟨A,hA,hs,ys,⟨c1,c2,rfl,h1,c3,c4,rfl,h2,h3⟩,hyc⟩:=hc i l[i] (List.getElem?_eq_getElem hi)
 simp only [RepD] at h1 h2 h3
 subst h1;subst h2;subst h3
 obtain ⟨Ab,Ao,As⟩:=A
 dsimp only at hs
 subst hs
 subst hA
 exact ⟨hln.symm,hn,hmx,Ab,Ao,rfl,(hyc 0 _ rfl).1,(hyc 0 _ rfl).2,(hyc 1 _ rfl).2,(hyc 2 _ rfl).2⟩
abbrev pick (all:List (Int×(Int×ByteArray))) (ps:List Int):List (Int×(Int×ByteArray)):=ps.map fun at_=>nth all at_ (0,(0,eB))
def Zuv (w:World) (all:List (Int×(Int×ByteArray))) (ps:List Int) (e:Ending) (w':World):Prop:=
 ∃ v,e = .returned (.tuple #[v, .int .i64 0])∧w'.ownsRow w.heap.size 45 3 v ps.length (ES (pick all ps))∧Below w.heap.size w w'
end Go.Proofs.YtclpadlpcfnfmaaGreat.Am
end

section
/- sift.Gather walked by hand: the walk. -/
namespace Go.Proofs.YtclpadlpcfnfmaaGreat.Am
open Go.AM Go.AM.Pure Go.RowKit Go.Shelf Go.Lib
open Go.Proofs
attribute [local go_sem] Oper.semAt_some
set_option maxRecDepth 100000
theorem Zp8 (w:World) (v0 v1 v2 v3:Value) (T:TypeId):∀ {w2:World},Below (w.alloc (.cells #[v0,v1,v2,v3] T)).heap.size (w.alloc (.cells #[v0,v1,v2,v3] T)) w2→
  w2.cell? ⟨w.heap.size,0,none⟩=some v0∧w2.cell? ⟨w.heap.size,1,none⟩=some v1∧w2.cell? ⟨w.heap.size,2,none⟩=some v2∧w2.cell? ⟨w.heap.size,3,none⟩=some v3:=by
 intro w2 hb
 have h:=(hb.block w.heap.size (by simp)).trans (heap_alloc_new w (.cells #[v0,v1,v2,v3] T))
 refine ⟨?_,?_,?_,?_⟩ <;> (rw [cell_of_row w2 _ _ _ _ _ h];rfl)
structure GG (w w2:World) (v0 v1 v2 v3 v6:Value) (W:World):Prop where
 below:Below w.heap.size w W
 below2:Below w2.heap.size w2 W
 x0:W.cell? ⟨w.heap.size,0,none⟩=some v0
 x1:W.cell? ⟨w.heap.size,1,none⟩=some v1
 x2:W.cell? ⟨w.heap.size,2,none⟩=some v2
 x3:W.cell? ⟨w.heap.size,3,none⟩=some v3
 x6:W.cell? ⟨w2.heap.size,0,none⟩=some v6
 l:w.heap.size<W.heap.size
 l6:w2.heap.size<W.heap.size
theorem GG.step {w w2:World} {v0 v1 v2 v3 v6:Value} {W W':World} (h:GG w w2 v0 v1 v2 v3 v6 W) (hb:Below W.heap.size W W'):GG w w2 v0 v1 v2 v3 v6 W':=
 ⟨h.below.trans (hb.mono h.below.size),h.below2.trans (hb.mono h.below2.size),(hb.cell (p:=⟨w.heap.size,0,none⟩) h.l).trans h.x0,(hb.cell (p:=⟨w.heap.size,1,none⟩) h.l).trans h.x1,(hb.cell (p:=⟨w.heap.size,2,none⟩) h.l).trans h.x2,(hb.cell (p:=⟨w.heap.size,3,none⟩) h.l).trans h.x3,
  (hb.cell (p:=⟨w2.heap.size,0,none⟩) h.l6).trans h.x6,Nat.lt_of_lt_of_le h.l hb.size,Nat.lt_of_lt_of_le h.l6 hb.size⟩
theorem KH.below {ok0:Nat→Nat→Prop} {w W:World} {x:Int×(List (Int×Int)×(List Int×List Int))} {V1 V2 V3:Value} (h:KH ok0 w x V1 V2 V3) (hok:∀ b o,ok0 b o→b<w.heap.size) (hb:Below w.heap.size w W):KH ok0 W x V1 V2 V3:=
 ⟨GR h.1 hok hb,GR h.2.1 hok hb,GR h.2.2 hok hb⟩
theorem Zm1 {c:Prop} [Decidable c] {p q:Prop} (hc:c) (h:p):if c then p else q:=by rw [if_pos hc];exact h
theorem Zq8 {all:List (Int×(Int×ByteArray))} {k:Nat} (hk:k<all.length):nth all (k:Int) (0,(0,eB))=all[k]:=by
 show all.getD k _=_
 rw [List.getD_eq_getElem?_getD,List.getElem?_eq_getElem hk]
 rfl
theorem Zci {F:Fence} {n:Nat} {P:Program} {o:Oper} {a:Act} {K:Act→World→Prop} {Q:Exit→Act→World→Prop} {W:World} {s x:Operand} {t tb e:TypeId} {i:TypeInfo} {z:Value} {size bytes n₀ B k:Nat} {v:Value} {xs news:List Value} {tmp:Obj}
  (hop:o.op=Op.call { callee:=Callee.builtin Builtin.append,args:=#[s,x],argTypes:=#[t,t] })
  (h1:P.underlying t=some (.slice e)) (h2:P.info? e=some i) (h3:i.zero=some z) (h4:i.size=size) (h5:i.bytes=bytes) (h6:z.cells.size=size) (h7:0<size)
  (hs:a.eval s=v) (hx:a.eval x = .slice (some ⟨W.heap.size,0,none⟩) 1 1) (hv:Boxed W B tb v) (hte:tb≠e) (ht6:tb≠67) (he6:e≠67) (hrow:W.ownsRow n₀ e size v k xs) (hn₀:n₀≤W.heap.size) (hB:n₀≤B)
  (hn:news.length=1*size) (hc:∀ j u,news[j]? = some u→(W.alloc tmp).drew.cell? ((⟨W.heap.size,0,none⟩:Addr).add j)=some u) (h1c:∀ u∈news,u.oneCell'=true) (b1:k+1≤maxLen) (b2:(k+1)*bytes≤140737488355328)
  (hK:∀ g' DN w1,w1.cell? ⟨B,0,none⟩=some v→w1.frozen? ⟨B,0,none⟩=false→Boxed (w1.setCell ⟨B,0,none⟩ (.slice (some ⟨g',0,none⟩) (k+1) DN)) B tb (.slice (some ⟨g',0,none⟩) (k+1) DN)→
   (w1.setCell ⟨B,0,none⟩ (.slice (some ⟨g',0,none⟩) (k+1) DN)).ownsRow n₀ e size (.slice (some ⟨g',0,none⟩) (k+1) DN) (k+1) (xs++news)→KeepsOthers W (w1.setCell ⟨B,0,none⟩ (.slice (some ⟨g',0,none⟩) (k+1) DN))→
   Below n₀ W (w1.setCell ⟨B,0,none⟩ (.slice (some ⟨g',0,none⟩) (k+1) DN))→Te W (w1.setCell ⟨B,0,none⟩ (.slice (some ⟨g',0,none⟩) (k+1) DN))→K (a.put o.dst (.slice (some ⟨g',0,none⟩) (k+1) DN)) w1):
  o.wpIn F n P a (W.alloc tmp).drew K Q:=by
 obtain ⟨v',w1,hrun,r1,r2,r3⟩:=run_append_own (P:=P) (W.alloc tmp).drew n₀ t o.type e i z size bytes h1 h2 h3 h4 h5 h6 h7 v k xs (show (W.alloc tmp).drew.ownsRow _ _ _ _ _ _ from hrow.alloc tmp) ⟨W.heap.size,0,none⟩ 1 1 news hn hc h1c b1 b2
  (by show n₀≤(W.alloc tmp).heap.size;simp;omega)
 have r2':(W.drew.alloc tmp).grownBy w1 v.ownBlock:=r2
 obtain ⟨g',DN,rfl⟩:=ownsRow_succ r1
 obtain ⟨q1,q2,q3,q4,q5⟩:=(show Boxed W.drew _ _ _ from hv).appended hte (show W.drew.ownsRow _ _ _ _ _ _ from hrow) hn₀ hB r1 r2'
 have q6:=rW (v':= .slice (some ⟨g',0,none⟩) (k+1) DN) (show Boxed W.drew _ _ _ from hv) ht6 (show W.drew.ownsRow _ _ _ _ _ _ from hrow) he6 r2'
 unfold Oper.wpIn
 refine ⟨?_,?_⟩
 ·simp [Oper.about,hop,resolve,Target.leads,Sem.run_pure]
 ·rw [Oper.semAt_plain F _ _ (by rw [hop];intro c hc';cases hc')]
  simp [execOp,hop,resolve,invoke,builtin,hs,hx,hrun,Result.andThen]
  exact hK g' DN w1 q1.cell q1.frozen q2 q3 ((KeepsOthers.drew W).trans q4) ((below_drewN (Below.refl _ W) 1).trans q5) q6
set_option maxHeartbeats 4000000 in
theorem rV {ok0:Nat→Nat→Prop} {a1 a2 a3:Option Addr} {l1 l2 l3 c1 c2 c3:Nat} (s:ByteArray) (x:Int×(List (Int×Int)×(List Int×List Int))) (all:List (Int×(Int×ByteArray))) (ps:List Int) (r c:Int) (w:World)
    (hok:∀ b o,ok0 b o→b<w.heap.size) (hr:KH ok0 w x (.slice a1 l1 c1) (.slice a2 l2 c2) (.slice a3 l3 c3)) (hT:EI s=some (all,0)) (hR:Dh x (Ai all)=some r) (hC:CV x=some c) (hrc:¬ r<c)
    (hP:Ji x=some ps) (hin:∀ p∈ps,0≤p∧p<(all.length:Int)) (hps:ps.length≤4294967296):
    Calls Tryz.prog 12 #[.string s, .agg #[.int .i64 x.1, .slice a1 l1 c1, .slice a2 l2 c2, .slice a3 l3 c3]] w (Zuv w all ps):=by
  refine (callsIn_wide (n:=4)).1 ?_
  have hro:Fence.wide.round=none:=rfl
  obtain ⟨i0,hi0,hz0,hz1,hz2⟩:=info_parts Zr8
  have HR:=Lib.hid hr
  have HT:=Lib.hid hT
  have HR2:=Lib.hid hR
  have HC:=Lib.hid hC
  have HP:=Lib.hid hP
  have HI:=Lib.hid hin
  have HO:=Lib.hid hok
  have HL:=Lib.hid hps
  clear hr hT hR hC hP hin hok hps
  refine callsIn_of_wp_marks Tryz.func12 rfl trivial ?_ hro
  simp only [Tryz.ntmps12,List.size_toArray,List.length_cons,List.length_nil,Nat.reduceAdd,Nat.reduceSub,Array.replicate_succ,Array.replicate_zero,List.push_toArray,List.append_toArray,List.nil_append,List.cons_append]
  have h1:1≤4:=by omega
  have hmx:Tryz.prog.follows .mixedOrders=true:=by kernel_rfl
  gi_wp2_with (refine ⟨trivial,?_⟩;gi_at_call 39;refine (callsIn_wide.2 (VX s _ _ HT.out)).mono ?_;rintro e w2 ⟨⟨a,n,cc,hrow,rfl⟩,hb2⟩;obtain ⟨hx0,hx1,hx2,hx3⟩:=Zp8 w _ _ _ _ _ hb2;have H1:=Lib.hid hrow;have H2:=Lib.hid hb2;clear hrow hb2)
  rename_i K1 hK1 K2 hK2
  have hn:n=all.length:=by
    obtain ⟨_,_,_,hv,hl,_⟩:=H1.out
    cases hv
    exact hl.symm
  subst hn
  have hsz:w.heap.size<w2.heap.size:=by have:=H2.out.size;simp at this;omega
  have HB:Below w.heap.size w w2:=((Below.refl _ w).alloc (Nat.le_refl _) _).trans (H2.out.mono (by simp))
  have hg0:GG w w2 (.int .i64 x.1) (.slice a1 l1 c1) (.slice a2 l2 c2) (.slice a3 l3 c3) (.slice a all.length cc) (w2.alloc (.cells #[.slice a all.length cc] 22)).drew:=
    ⟨below_drewN (HB.alloc (Nat.le_of_lt hsz) _) 1,below_drewN ((Below.refl _ w2).alloc (Nat.le_refl _) _) 1,(World.cell?_alloc_lt w2 _ ⟨w.heap.size,0,none⟩ hsz).trans hx0,(World.cell?_alloc_lt w2 _ ⟨w.heap.size,1,none⟩ hsz).trans hx1,(World.cell?_alloc_lt w2 _ ⟨w.heap.size,2,none⟩ hsz).trans hx2,
      (World.cell?_alloc_lt w2 _ ⟨w.heap.size,3,none⟩ hsz).trans hx3,by show (w2.alloc (.cells #[.slice a all.length cc] 22)).cell? _=_;rw [cell_of_row _ _ _ _ _ _ (heap_alloc_new w2 _)];rfl,by show w.heap.size<(w2.alloc _).heap.size;simp;omega,by show w2.heap.size<(w2.alloc _).heap.size;simp⟩
  clear hx0 hx1 hx2 hx3
  obtain ⟨_,_,hx0,hx1,hx2,hx3,hx6,_,_⟩:=id hg0
  have HG:=Lib.hid hg0
  have HB2:=Lib.hid HB
  clear hg0 HB
  have hrest:∀ W5,GG w w2 (.int .i64 x.1) (.slice a1 l1 c1) (.slice a2 l2 c2) (.slice a3 l3 c3) (.slice a all.length cc) W5→Exit.then K2 (Exit.then K1 (bodyPostM Fence.wide 4 Tryz.prog Tryz.f12 (Zuv w all ps))) .normal
      { tmps := #[.string s, .agg #[.int .i64 x.1, .slice a1 l1 c1, .slice a2 l2 c2, .slice a3 l3 c3], undef, .pointer (some ⟨w.heap.size, 0, none⟩), .slice none 0 0, .int .i64 0, .pointer (some ⟨w2.heap.size, 0, none⟩), .int .i64 0, undef, undef,
          .tuple #[.slice a all.length cc, .int .i64 0], .string s, .tuple #[.slice a all.length cc, .int .i64 0], .slice a all.length cc, .int .i64 0, .int .i64 0, .bool false,undef, .agg #[.int .i64 x.1, .slice a1 l1 c1, .slice a2 l2 c2, .slice a3 l3 c3],
          .slice a all.length cc, .int .i64 (all.length:Int), .int .i64 r, .agg #[.int .i64 x.1, .slice a1 l1 c1, .slice a2 l2 c2, .slice a3 l3 c3], .int .i64 c, .bool (decide (r<c)),undef,undef,undef,undef,undef,undef,undef,undef,undef,undef,undef],defers:=[] } W5:=by
    intro W5 hG
    obtain ⟨hGb,hGb2,hx0,hx1,hx2,hx3,hx6,hl,hl6⟩:=hG
    have hrc2:¬ r<c:=by omega
    have hA0:(W5.alloc (.cells #[.slice none 0 0] 22)).cell? ⟨w.heap.size,0,none⟩=some (.int .i64 x.1):=(World.cell?_alloc_lt W5 _ ⟨w.heap.size,0,none⟩ hl).trans hx0
    have hA1:(W5.alloc (.cells #[.slice none 0 0] 22)).cell? ⟨w.heap.size,1,none⟩=some (.slice a1 l1 c1):=(World.cell?_alloc_lt W5 _ ⟨w.heap.size,1,none⟩ hl).trans hx1
    have hA2:(W5.alloc (.cells #[.slice none 0 0] 22)).cell? ⟨w.heap.size,2,none⟩=some (.slice a2 l2 c2):=(World.cell?_alloc_lt W5 _ ⟨w.heap.size,2,none⟩ hl).trans hx2
    have hA3:(W5.alloc (.cells #[.slice none 0 0] 22)).cell? ⟨w.heap.size,3,none⟩=some (.slice a3 l3 c3):=(World.cell?_alloc_lt W5 _ ⟨w.heap.size,3,none⟩ hl).trans hx3
    have hGb6:Below w.heap.size w (W5.alloc (.cells #[.slice none 0 0] 22)):=hGb.alloc hGb.size _
    have h5:w.heap.size≤W5.heap.size:=hGb.size
    have hpl:=rZ (ok0:=ok0) 3 (by omega) W5.heap.size x ps (W5.alloc (.cells #[.slice none 0 0] 22)) (by simp) (fun b o h=>Nat.lt_of_lt_of_le (HO.out b o h) h5) (HR.out.below HO.out hGb6) HP.out HL.out
    have HPL:=Lib.hid hpl
    clear hpl
    gi_wp2_with (refine ⟨trivial,?_⟩;gi_at_call 42;refine (callsIn_wide.2 HPL.out).mono ?_;rintro e w7 ⟨g,lb,rfl,hb7,hent,hseq⟩;have H7:=Lib.hid hb7;have HE:=Lib.hid hent;have HS:=Lib.hid hseq;clear hb7 hent hseq)
    have hB7:Below W5.heap.size W5 w7:=((Below.refl _ W5).alloc (Nat.le_refl _) _).trans (H7.out.mono (by simp))
    have hbx:Boxed w7 W5.heap.size 22 (.slice none 0 0):=(H7.out.block W5.heap.size (by simp)).trans (heap_alloc_new W5 _)
    have hB27:Below w2.heap.size w2 w7:=hGb2.trans (hB7.mono hGb2.size)
    have hw7:W5.heap.size<w7.heap.size:=by have:=H7.out.size;simp at this;omega
    refine wpIn_rangeFunc_ownG (α:={ y:Int // y∈ps }) hro h1 (gf:=g) (lb:=lb) rfl trivial HE.out HS.out.stops (fun h k=>h.trans k) (Zhf1 (Nat.le_of_lt hw7)) (Below.refl _ _) (fun _=>rfl)
      (fun pre W=>(∃ v,Boxed W W5.heap.size 22 v∧W.ownsRow W5.heap.size 45 3 v pre.length (ES (pick all (pre.map (·.1))))∧True)∧Below W5.heap.size w7 W)
      (fun _ _ _=>False)
      (OwnFrom.and (Own.from (holdsRow_own W5.heap.size W5.heap.size 22 45 3 (fun pre:List { y:Int // y∈ps }=>pre.length) (fun pre=>ES (pick all (pre.map (·.1)))) (fun _ _=>True)) _) (ownFrom_below (Nat.le_of_lt hw7) (Nat.le_of_lt hw7)))
      (fun _ _ _ _ _ hs _ _=>hs)
      ⟨⟨_,hbx,World.ownsRow_nil _ _ _ _,trivial⟩,Below.refl _ _⟩
      (fun y => { tmps := #[.string s, .agg #[.int .i64 x.1, .slice a1 l1 c1, .slice a2 l2 c2, .slice a3 l3 c3], undef, .pointer (some ⟨w.heap.size, 0, none⟩), .slice none 0 0, .int .i64 0, .pointer (some ⟨w2.heap.size, 0, none⟩), .int .i64 0, .pointer (some ⟨W5.heap.size, 0, none⟩), .int .i64 y.1,
          .tuple #[.slice a all.length cc, .int .i64 0], .string s, .tuple #[.slice a all.length cc, .int .i64 0], .slice a all.length cc, .int .i64 0, .int .i64 0, .bool false,undef, .agg #[.int .i64 x.1, .slice a1 l1 c1, .slice a2 l2 c2, .slice a3 l3 c3],
          .slice a all.length cc, .int .i64 (all.length:Int), .int .i64 r, .agg #[.int .i64 x.1, .slice a1 l1 c1, .slice a2 l2 c2, .slice a3 l3 c3], .int .i64 c, .bool (decide (r<c)), .agg #[.int .i64 x.1, .slice a1 l1 c1, .slice a2 l2 c2, .slice a3 l3 c3],
          .func (.func g) #[] lb, .int .i64 y.1,undef,undef,undef,undef,undef,undef,undef,undef],defers:=[] }) ?assign ?body ?done ?stop
    case assign=>
      intro l y W K hK
      simp only [encI]
      gi_wp2
      exact hK
    case body=>
      rintro l pre ⟨y,hy⟩ W ⟨⟨v,hv,hrow,hT0⟩,hB⟩ hlt
      obtain ⟨hy0,hy1⟩:=HI.out y hy
      obtain ⟨k,rfl⟩:=Int.eq_ofNat_of_zero_le hy0
      have hk:k<all.length:=by omega
      obtain ⟨_,hcc,hmx2,b,off,rfl,hob,hq0,hq1,hq2⟩:=Zei H1.out hk
      have hb2:b<w2.heap.size:=by
        rcases hob with h | h
        · exact h.elim
        · exact h.2
      have hBW:Below w2.heap.size w2 W:=hB27.trans (hB.mono (Nat.le_trans (Nat.le_of_lt hl6) (Nat.le_refl _)))
      have hr0:W.cell? ⟨b,off+k*3,none⟩=some (.int .i64 all[k].1):=(hBW.cell (p:=⟨b,off+k*3,none⟩) hb2).trans hq0
      have hr1:W.cell? ⟨b,off+k*3+1,none⟩=some (.int .i64 all[k].2.1):=(hBW.cell (p:=⟨b,off+k*3+1,none⟩) hb2).trans hq1
      have hr2:W.cell? ⟨b,off+k*3+2,none⟩=some (.string all[k].2.2):=(hBW.cell (p:=⟨b,off+k*3+2,none⟩) hb2).trans hq2
      have h6W:W.cell? ⟨w2.heap.size,0,none⟩=some (.slice (some ⟨b,off,none⟩) all.length cc):=(hB.cell (p:=⟨w2.heap.size,0,none⟩) hl6).trans ((hB7.cell (p:=⟨w2.heap.size,0,none⟩) hl6).trans hx6)
      have hc:=hv.cell
      have hplen:pre.length<4294967296:=Nat.lt_of_lt_of_le hlt HL.out
      have hc2:(W.alloc (.cells #[.int .i64 all[k].1, .int .i64 all[k].2.1, .string all[k].2.2] 45)).cell? ⟨W5.heap.size,0,none⟩=some v:=(World.cell?_alloc_lt W _ ⟨W5.heap.size,0,none⟩ hv.lt).trans hc
      have HV:=Lib.hid hv
      have HW:=Lib.hid hrow
      have HBB:=Lib.hid hB
      clear hv hrow hB hq0 hq1 hq2 hBW
      gi_wp2
      rename_i Q2 hQ2
      clear hT0 HR HT HR2 HC HP HO H2 HB2 hGb hGb2 hA0 hA1 hA2 hA3 hGb6 HPL HE HS H7 hbx hB27 hB7
      have happ:∀ {a:Act} {K:Act→World→Prop} {o:Oper},o.op=Op.call { callee:=Callee.builtin Builtin.append,args:=#[.tmp 28, .tmp 33],argTypes:=#[22,22] }→a.eval (.tmp 28)=v→a.eval (.tmp 33) = .slice (some ⟨W.heap.size,0,none⟩) 1 1→(∀ (g' DN:Nat) (w1:World),w1.cell? ⟨W5.heap.size,0,none⟩=some v→w1.frozen? ⟨W5.heap.size,0,none⟩=false→Boxed (w1.setCell ⟨W5.heap.size,0,none⟩ (.slice (some ⟨g',0,none⟩) (pre.length+1) DN)) W5.heap.size 22 (.slice (some ⟨g',0,none⟩) (pre.length+1) DN)→World.ownsRow (w1.setCell ⟨W5.heap.size,0,none⟩ (.slice (some ⟨g',0,none⟩) (pre.length+1) DN)) W5.heap.size 45 3 (.slice (some ⟨g',0,none⟩) (pre.length+1) DN) (pre.length+1) (ES (pick all (pre.map (·.1)))++Jw all[k])→KeepsOthers W (w1.setCell ⟨W5.heap.size,0,none⟩ (.slice (some ⟨g',0,none⟩) (pre.length+1) DN))→Below W5.heap.size W (w1.setCell ⟨W5.heap.size,0,none⟩ (.slice (some ⟨g',0,none⟩) (pre.length+1) DN))→Te W (w1.setCell ⟨W5.heap.size,0,none⟩ (.slice (some ⟨g',0,none⟩) (pre.length+1) DN))→K (a.put o.dst (.slice (some ⟨g',0,none⟩) (pre.length+1) DN)) w1)→o.wpIn (Fence.wide.inRound l) 2 Tryz.prog a (W.alloc (.cells #[.int .i64 all[k].1, .int .i64 all[k].2.1, .string all[k].2.2] 45)).drew K (Exit.inBlock 1 Q2):=fun ho hs hx hK=>
        Zci ho Tryz.underlying22 hi0 hz0 hz1 hz2 rfl (by decide) hs hx HV.out (by decide) (by decide) (by decide) HW.out (by have:=HBB.out.size;omega) (Nat.le_refl _) (news:=Jw all[k]) rfl (Zdi (T:=45) (y:=(0,0)) (heap_alloc_new W _)) (wz _) (by unfold maxLen;omega) (by omega) hK
      have hend:∀ (a:Act) g' DN W',Boxed W' W5.heap.size 22 (.slice (some ⟨g',0,none⟩) (pre.length+1) DN)→W'.ownsRow W5.heap.size 45 3 (.slice (some ⟨g',0,none⟩) (pre.length+1) DN) (pre.length+1) (ES (pick all (pre.map (·.1)))++Jw all[k])→KeepsOthers W W'→Below W5.heap.size W W'→Te W W'→Exit.inBlock 1 Q2 .normal a W':=by
        intro a g' DN W' I1 I2 I3 I4 I5
        have hrow':W'.ownsRow W5.heap.size 45 3 (.slice (some ⟨g',0,none⟩) (pre.length+1) DN) (pre++[(⟨(k:Int),hy⟩:{ y:Int // y∈ps })]).length (ES (pick all ((pre++[(⟨(k:Int),hy⟩:{ y:Int // y∈ps })]).map (·.1)))):=by
          rw [List.length_append,List.map_append,pick,List.map_append,List.map_singleton,List.map_singleton,Zq8 hk,cw]
          exact I2
        exact ⟨I3.from _,⟨I4,I5⟩,⟨_,I1,hrow',trivial⟩,HBB.out.trans I4⟩
      refine wpIn_region_any hmx ?_
      try (change wpAnyIn _ _ _ _ _ _ _ _ _ (World.drew _))
      all_goals
        first
          | refine wpAnyIn_ready (rs:=[0,1,2]) (by decide +kernel) (by simp) ?_
        repeat' (first | exact AllReadyIn.nil | refine AllReadyIn.cons rfl (fun K hK=>?_) ?_)
        all_goals (go_simp;refine hK _ _ ?_;clear hK K)
      all_goals
        first
          | refine wpAnyIn_ready (rs:=[1,2]) (by decide +kernel) (by simp) ?_
          | refine wpAnyIn_ready (rs:=[0,2]) (by decide +kernel) (by simp) ?_
          | refine wpAnyIn_ready (rs:=[0,1]) (by decide +kernel) (by simp) ?_
        repeat' (first | exact AllReadyIn.nil | refine AllReadyIn.cons rfl (fun K hK=>?_) ?_)
        all_goals (go_simp;refine hK _ _ ?_;clear hK K)
      all_goals
        first
          | refine wpAnyIn_ready (rs:=[2]) (by decide +kernel) (by simp) ?_
          | refine wpAnyIn_ready (rs:=[1]) (by decide +kernel) (by simp) ?_
          | refine wpAnyIn_ready (rs:=[0,3]) (by decide +kernel) (by simp) ?_
        repeat' (first | exact AllReadyIn.nil | refine AllReadyIn.cons rfl (fun K hK=>?_) ?_)
        all_goals (go_simp;refine hK _ _ ?_;clear hK K)
      all_goals
        first
          | refine wpAnyIn_ready (rs:=[3]) (by decide +kernel) (by simp) ?_
          | refine wpAnyIn_ready (rs:=[0,4]) (by decide +kernel) (by simp) ?_
        repeat' (first | exact AllReadyIn.nil | refine AllReadyIn.cons rfl (fun K hK=>?_) ?_)
        all_goals (go_simp;refine hK _ _ ?_;clear hK K)
      all_goals
        first
          | refine wpAnyIn_ready (rs:=[4]) (by decide +kernel) (by simp) ?_
          | refine wpAnyIn_ready (rs:=[0,5]) (by decide +kernel) (by simp) ?_
        repeat' (first | exact AllReadyIn.nil | refine AllReadyIn.cons rfl (fun K hK=>?_) ?_)
        all_goals (go_simp;refine hK _ _ ?_;clear hK K)
      all_goals
        first
          | refine wpAnyIn_ready (rs:=[5]) (by decide +kernel) (by simp) ?_
          | refine wpAnyIn_ready (rs:=[0]) (by decide +kernel) (by simp) ?_
        repeat' (first | exact AllReadyIn.nil | refine AllReadyIn.cons rfl (fun K hK=>?_) ?_)
        all_goals (go_simp;refine hK _ _ ?_;clear hK K)
      all_goals
        refine wpAnyIn_ready (rs:=[6]) (by kernel_rfl) (by simp) ?_
        refine AllReadyIn.cons rfl (fun K hK=>Zm1 (by kernel_rfl) ?_) AllReadyIn.nil
        refine happ (by rfl) (by rfl) (by rfl) fun g' DN w1 hc1 hf1 I1 I2 I3 I4 I5=>?_
        refine hK _ _ ?_
        clear hK K happ
        refine wpAnyIn_ready (rs:=[7]) (by kernel_rfl) (by simp) ?_
        refine AllReadyIn.cons rfl (fun K hK=>?_) AllReadyIn.nil
        go_simp
        refine hK _ _ ?_
        clear hK K
        refine wpAnyIn_done (by kernel_rfl) ?_ _
        exact hend _ g' DN _ I1 I2 I3 I4 I5
    case done=>
      rintro D ys W hD hys ⟨⟨v,hv,hrow,_⟩,hB⟩ hK
      have hc:=hv.cell
      have HB9:Below w.heap.size w W:=(hGb.trans (hB7.mono h5)).trans (hB.mono h5)
      have hlen:ys.length=ps.length:=by have:=congrArg List.length hys;simpa using this
      rw [hys,hlen] at hrow
      have HW:=Lib.hid hrow
      have HB3:=Lib.hid HB9
      clear hrow hB HB9 hv
      gi_wp2
      refine ⟨by simp, .inl ⟨_,_,rfl,run_takeDeferred hK,?_⟩⟩
      refine ⟨_,results_tmp2 rfl _ _ _,v,rfl,ownsRow_putObj (wN HW.out h5) _ hK rfl,HB3.out.trans (belowK_b (w:=w7) (Nat.le_trans h5 (Nat.le_of_lt hw7)) W D _ _ hD hK rfl rfl)⟩
    case stop=>
      rintro D c pre W _ _ h _
      exact h.elim
  first | gi_region_with_o (first
    | (refine ⟨trivial,?_⟩;gi_at_call 40;refine (callsIn_wide.2 (gD x (Ai all) r _ (fun b o h=>Nat.lt_of_lt_of_le (HO.out b o h) HG.out.below.size) (HR.out.below HO.out HG.out.below) HR2.out)).mono ?_;rintro e w5 ⟨rfl,hb5⟩;replace HG:=Lib.hid (HG.out.step hb5);clear hb5 hx0 hx1 hx2 hx3 hx6;obtain ⟨_,_,hx0,hx1,hx2,hx3,hx6,_,_⟩:=id HG.out)
    | (refine ⟨trivial,?_⟩;gi_at_call 41;refine (callsIn_wide.2 (bn x c _ (fun b o h=>Nat.lt_of_lt_of_le (HO.out b o h) HG.out.below.size) (HR.out.below HO.out HG.out.below) HC.out)).mono ?_;rintro e w5 ⟨rfl,hb5⟩;replace HG:=Lib.hid (HG.out.step hb5);clear hb5 hx0 hx1 hx2 hx3 hx6;obtain ⟨_,_,hx0,hx1,hx2,hx3,hx6,_,_⟩:=id HG.out)) | fail
  all_goals exact hrest _ HG.out
end Go.Proofs.YtclpadlpcfnfmaaGreat.Am
end

section
/- sift.Gather: its contract. -/
namespace Go.Proofs.YtclpadlpcfnfmaaGreat.Am
open Go.AM Go.AM.Pure Go.RowKit Go.Shelf Go.Lib
open Go.Proofs
attribute [local go_sem] Oper.semAt_some
set_option maxRecDepth 100000
def GNo (w:World) (n:Int) (e:Ending) (w':World):Prop:=e = .returned (.tuple #[.slice none 0 0, .int .i64 n])∧Below w.heap.size w w'
set_option maxHeartbeats 2000000 in
theorem wy {a1 a2 a3:Option Addr} {l1 l2 l3 c1 c2 c3:Nat} (s:ByteArray) (x1:Int) (all:List (Int×(Int×ByteArray))) (er:Int) (w:World) (hT:EI s=some (all,er)) (he:¬ er=0):
  Calls Tryz.prog 12 #[.string s, .agg #[.int .i64 x1, .slice a1 l1 c1, .slice a2 l2 c2, .slice a3 l3 c3]] w (GNo w er):=by
 refine (callsIn_wide (n:=4)).1 ?_
 have hro:Fence.wide.round=none:=rfl
 have HT:=Lib.hid hT
 clear hT
 refine callsIn_of_wp Tryz.func12 rfl trivial ?_ hro
 simp only [Tryz.ntmps12,List.size_toArray,List.length_cons,List.length_nil,Nat.reduceAdd,Nat.reduceSub,Array.replicate_succ,Array.replicate_zero,List.push_toArray,List.append_toArray,List.nil_append,List.cons_append]
 gi_wp2_with (refine ⟨trivial,?_⟩;gi_at_call 39;refine (callsIn_wide.2 (VX s _ _ HT.out)).mono ?_;rintro e w2 ⟨⟨a,n,cc,hrow,rfl⟩,hb2⟩;have H2:=Lib.hid hb2;clear hrow hb2)
 refine bodyPost_ret (results_tmp2 rfl _ _ _) rfl ?_
 have HB:Below w.heap.size w w2:=((Below.refl _ w).alloc (Nat.le_refl _) _).trans (H2.out.mono (by simp))
 exact ⟨rfl,HB.alloc HB.size _⟩
set_option maxHeartbeats 4000000 in
theorem kC {ok0:Nat→Nat→Prop} {a1 a2 a3:Option Addr} {l1 l2 l3 c1 c2 c3:Nat} (s:ByteArray) (x:Int×(List (Int×Int)×(List Int×List Int))) (all:List (Int×(Int×ByteArray))) (r c:Int) (w:World)
  (hok:∀ b o,ok0 b o→b<w.heap.size) (hr:KH ok0 w x (.slice a1 l1 c1) (.slice a2 l2 c2) (.slice a3 l3 c3)) (hT:EI s=some (all,0)) (hR:Dh x (Ai all)=some r) (hC:CV x=some c) (hrc:r<c):
  Calls Tryz.prog 12 #[.string s, .agg #[.int .i64 x.1, .slice a1 l1 c1, .slice a2 l2 c2, .slice a3 l3 c3]] w (GNo w 3):=by
 refine (callsIn_wide (n:=4)).1 ?_
 have hro:Fence.wide.round=none:=rfl
 have HR:=Lib.hid hr
 have HT:=Lib.hid hT
 have HR2:=Lib.hid hR
 have HC:=Lib.hid hC
 have HO:=Lib.hid hok
 clear hr hT hR hC hok
 refine callsIn_of_wp Tryz.func12 rfl trivial ?_ hro
 simp only [Tryz.ntmps12,List.size_toArray,List.length_cons,List.length_nil,Nat.reduceAdd,Nat.reduceSub,Array.replicate_succ,Array.replicate_zero,List.push_toArray,List.append_toArray,List.nil_append,List.cons_append]
 have h1:1≤4:=by omega
 have hmx:Tryz.prog.follows .mixedOrders=true:=by kernel_rfl
 gi_wp2_with (refine ⟨trivial,?_⟩;gi_at_call 39;refine (callsIn_wide.2 (VX s _ _ HT.out)).mono ?_;rintro e w2 ⟨⟨a,n,cc,hrow,rfl⟩,hb2⟩;obtain ⟨hx0,hx1,hx2,hx3⟩:=Zp8 w _ _ _ _ _ hb2;have H1:=Lib.hid hrow;have H2:=Lib.hid hb2;clear hrow hb2)
 have hn:n=all.length:=by
  obtain ⟨_,_,_,hv,hl,_⟩:=H1.out
  cases hv
  exact hl.symm
 subst hn
 have hsz:w.heap.size<w2.heap.size:=by have:=H2.out.size;simp at this;omega
 have HB:Below w.heap.size w w2:=((Below.refl _ w).alloc (Nat.le_refl _) _).trans (H2.out.mono (by simp))
 have hg0:GG w w2 (.int .i64 x.1) (.slice a1 l1 c1) (.slice a2 l2 c2) (.slice a3 l3 c3) (.slice a all.length cc) (w2.alloc (.cells #[.slice a all.length cc] 22)).drew:=
  ⟨below_drewN (HB.alloc (Nat.le_of_lt hsz) _) 1,below_drewN ((Below.refl _ w2).alloc (Nat.le_refl _) _) 1,(World.cell?_alloc_lt w2 _ ⟨w.heap.size,0,none⟩ hsz).trans hx0,(World.cell?_alloc_lt w2 _ ⟨w.heap.size,1,none⟩ hsz).trans hx1,(World.cell?_alloc_lt w2 _ ⟨w.heap.size,2,none⟩ hsz).trans hx2,
   (World.cell?_alloc_lt w2 _ ⟨w.heap.size,3,none⟩ hsz).trans hx3,by show (w2.alloc (.cells #[.slice a all.length cc] 22)).cell? _=_;rw [cell_of_row _ _ _ _ _ _ (heap_alloc_new w2 _)];rfl,by show w.heap.size<(w2.alloc _).heap.size;simp;omega,by show w2.heap.size<(w2.alloc _).heap.size;simp⟩
 clear hx0 hx1 hx2 hx3
 obtain ⟨_,_,hx0,hx1,hx2,hx3,hx6,_,_⟩:=id hg0
 have HG:=Lib.hid hg0
 clear hg0 HB
 gi_region_with_o (first
  | (refine ⟨trivial,?_⟩;gi_at_call 40;refine (callsIn_wide.2 (gD x (Ai all) r _ (fun b o h=>Nat.lt_of_lt_of_le (HO.out b o h) HG.out.below.size) (HR.out.below HO.out HG.out.below) HR2.out)).mono ?_;rintro e w5 ⟨rfl,hb5⟩;replace HG:=Lib.hid (HG.out.step hb5);clear hb5 hx0 hx1 hx2 hx3 hx6;obtain ⟨_,_,hx0,hx1,hx2,hx3,hx6,_,_⟩:=id HG.out)
  | (refine ⟨trivial,?_⟩;gi_at_call 41;refine (callsIn_wide.2 (bn x c _ (fun b o h=>Nat.lt_of_lt_of_le (HO.out b o h) HG.out.below.size) (HR.out.below HO.out HG.out.below) HC.out)).mono ?_;rintro e w5 ⟨rfl,hb5⟩;replace HG:=Lib.hid (HG.out.step hb5);clear hb5 hx0 hx1 hx2 hx3 hx6;obtain ⟨_,_,hx0,hx1,hx2,hx3,hx6,_,_⟩:=id HG.out))
 all_goals gi_wp2
 all_goals
  refine bodyPost_ret (results_tmp2 rfl _ _ _) rfl ?_
  exact ⟨rfl,HG.out.below⟩
theorem rU {ok:Nat→Nat→Prop} {w:World} (l:List (Int×(Int×ByteArray))):FV ok w PD l (ES l):=by
 refine ⟨cv l,fun i x hi=>⟨Jw x,⟨[.int .i64 x.1],_,rfl,rfl,[.int .i64 x.2.1],[.string x.2.2],rfl,rfl,rfl⟩,fun j u hj=>?_⟩⟩
 induction l generalizing i with
 | nil=>cases hi
 | cons a l ih=>
  have hj3:j<3:=(List.getElem?_eq_some_iff.1 hj).1
  cases i with
  | zero=>
   have hax:a=x:=by simpa using hi
   subst hax
   show (Jw a++ES l)[0*3+j]? = some u
   rw [Nat.zero_mul,Nat.zero_add,List.getElem?_append_left hj3]
   exact hj
  | succ i=>
   have:=ih i (by simpa using hi)
   show (Jw a++ES l)[(i+1)*3+j]? = some u
   rw [List.getElem?_append_right (by show 3≤_;omega),show (i+1)*3+j-(Jw a).length=i*3+j by show _-3=_;omega]
   exact this
theorem Td {ok0:Nat→Nat→Prop} {w w':World} {v:Value} {l:List (Int×(Int×ByteArray))} {n:Int} (ho:w'.ownsRow w.heap.size 45 3 v l.length (ES l)):
  ∃ us,MW (okN ok0 w w') w' (FX [.sl PD, .int .i64]) (l,n) us∧Ending.returned (.tuple #[v, .int .i64 n]) = .returned (SZ us):=
 ⟨[v, .int .i64 n],⟨[v],[.int .i64 n],rfl,Zi (e:=PD) ho (rU l) fun b o h1 h2=> .inr ⟨h1,h2⟩,[.int .i64 n],rfl,rfl⟩,rfl⟩
@[reducible] def Ke : AM.Spec := AM.spec [.val .str, .val Ue] [(.sl PD, []), (.int .i64, [])] (fun x => Hd x.1 x.2.1)
theorem NM:Ah Tryz.prog 12 Ke:=
 Ud (ps:=[.str,Ue]) (rs:=[.sl PD, .int .i64]) fun x y hF ok0 w vs z hz hok ha=>by
  obtain ⟨cs,r,rfl,hr,cs2,r2,rfl,hr2,hr0⟩:=ha
  cases hr0
  simp only [RepD] at hr
  subst hr
  obtain ⟨a1,n1,c1,a2,n2,c2,a3,n3,c3,rfl,hL⟩:=rX hr2
  obtain ⟨s,l,u⟩:=x
  have hF:Hd s l=some y:=hF
  unfold Hd at hF
  cases hT:EI s with
  | none=>rw [hT] at hF;cases hF
  | some t=>
   rw [hT] at hF
   dsimp only [Option.bind] at hF
   obtain ⟨all,e⟩:=t
   by_cases he:e=0
   ·subst he
    rw [show neI ((all,(0:Int)).2) 0=false from rfl] at hF
    dsimp only [cond] at hF
    cases hR:Dh l (Ai all) with
    | none=>rw [hR] at hF;cases hF
    | some r=>
     rw [hR] at hF
     dsimp only at hF
     cases hC:CV l with
     | none=>rw [hC] at hF;cases hF
     | some c=>
      rw [hC] at hF
      dsimp only at hF
      by_cases hrc:r<c
      ·rw [show ltI r c=true from decide_eq_true hrc] at hF
       cases hF
       refine (kC s l all r c w hok hL hT hR hC hrc).mono ?_
       rintro e w' ⟨rfl,hb⟩
       exact ⟨Td (l:=[]) (World.ownsRow_nil _ _ _ _),hb⟩
      ·rw [show ltI r c=false from decide_eq_false hrc] at hF
       dsimp only [cond] at hF
       cases hP:Ji l with
       | none=>rw [hP] at hF;cases hF
       | some ps=>
        rw [hP] at hF
        dsimp only at hF
        cases hg:(ps.all fun at_=>inB at_ (Ai all)) && decide (ps.length≤4294967296) with
        | false=>rw [hg] at hF;cases hF
        | true=>
         rw [hg] at hF
         cases hF
         rw [Bool.and_eq_true,List.all_eq_true] at hg
         refine (rV s l all ps r c w hok hL hT hR hC hrc hP (fun p hp=>?_) (of_decide_eq_true hg.2)).mono ?_
         ·have:=hg.1 p hp
          unfold inB at this
          rw [Bool.and_eq_true] at this
          exact ⟨of_decide_eq_true this.1,of_decide_eq_true this.2⟩
         ·rintro e w' ⟨v,rfl,ho,hb⟩
          have ho':w'.ownsRow w.heap.size 45 3 v (pick all ps).length (ES (pick all ps)):=by rw [List.length_map];exact ho
          exact ⟨Td ho',hb⟩
   ·rw [show neI (all,e).2 0=true from bne_iff_ne.2 he] at hF
    cases hF
    refine (wy s l.1 all e w hT he).mono ?_
    rintro e1 w' ⟨rfl,hb⟩
    exact ⟨Td (l:=[]) (World.ownsRow_nil _ _ _ _),hb⟩
end Go.Proofs.YtclpadlpcfnfmaaGreat.Am
end
