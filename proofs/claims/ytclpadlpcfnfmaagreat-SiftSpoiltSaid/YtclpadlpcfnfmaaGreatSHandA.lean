import Derived.RangeFuncBox
import Derived.RangeFuncLeaves
import Derived.Shelf.Abstract
import Derived.OwnWalkIn
import Derived.TacticsInMore
import Derived.LoopNIn
import Derived.LoopIn
import Derived.Maps.AppendAt
import Derived.Outline
import Derived.WalkLawsBesides
import Derived.BigRegion
import Derived.BigQuiet
import Derived.Deep.QuietTactic
import Derived.Test.YtclpadlpcfnfmaaGreatAmHand18
import Derived.Test.YtclpadlpcfnfmaaGreatSPrfA
section
namespace Go.Proofs.YtclpadlpcfnfmaaGreat.Am
open Go.Proofs.Tryz
open Go.AM Go.AM.Pure Go.RowKit Go.Shelf Go.Lib
set_option maxRecDepth 100000
open Go.Proofs
def Jo (l:List (Int×Int)):List Value:=l.flatMap λ s=>[.int .i64 s.1, .int .i64 s.2]
theorem bQ:(prog.info? 67).map (λ i=>(i.zero,i.size,i.bytes))=some (some (.agg #[.int .i64 0, .int .i64 0]),2,16):=by kernel_rfl
theorem a7 {w:World} {b:Nat} {lo hi:Int} {T:TypeId} {y:Nat×Nat} (h:w.heap[b]? = some (.cells #[.int .i64 lo, .int .i64 hi] T y)):∀ (j:Nat) (u:Value),[Value.int .i64 lo,Value.int .i64 hi][j]? = some u->w.cell? ((⟨b,0,none⟩:Addr).add j)=some u:=by
 intro j u hj;rw [Addr.add_lit,AF,cell_of_row w b j _ T y h,<- hj];simp
theorem aK {lo hi:Int}:∀ (u:Value),u∈[Value.int IntKind.i64 lo,Value.int IntKind.i64 hi]->u.oneCell'=true:=by
 intro u hu;simp at hu;rcases hu with rfl | rfl <;> rfl
theorem below_drewN {n:Nat} {a b:World} (h:Below n a b) (k:Nat):Below n a (b.drewN k):=⟨h.os,h.tape,h.output,h.size,h.block⟩
theorem Yy6 {w:World} {n0:Nat} {T:TypeId} {sz n:Nat} {v:Value} {xs:List Value} (h:w.ownsRow n0 T sz v n xs) (o o':Obj) (k:Nat):(((w.alloc o).drewN k).alloc o').ownsRow n0 T sz v n xs:=
 World.ownsRow.alloc (w:=(w.alloc o).drewN k) (h.alloc o) o'
theorem UG {w:World} {n0 g:Nat} {T:TypeId} {sz n cap:Nat} {xs:List Value} (h:w.ownsRow n0 T sz (.slice (some ⟨g,0,none⟩) n cap) n xs) (j:Nat) (u:Value) (hj:xs[j]? = some u):w.cell? ⟨g,j,none⟩=some u/\w.frozen? ⟨g,j,none⟩=false:=by
 obtain ⟨_,⟨h,_⟩ | ⟨g',Dr,cur,hv,_,hh,_,_,_,Fw⟩⟩:=h
 ·cases h
 ·cases hv;rw [<- Fw,AQ] at hj;split at hj
  ·refine ⟨?_,by simp [World.frozen?,hh]⟩;rw [cell_of_row w g j cur T (0,0) hh];simpa using hj
  ·cases hj
theorem zd {w:World} {n0 g m cap:Nat} {aa b c:Value} {xs:List Value} (h:w.ownsRow n0 67 2 (.slice (some ⟨g,0,none⟩) (m+1) cap) (m+1) (xs++[aa,b])) (Pw:xs.length=m*2):
  (w.setCell ⟨g,m*2+1,none⟩ c).ownsRow n0 67 2 (.slice (some ⟨g,0,none⟩) (m+1) cap) (m+1) (xs++[aa,c]):=by
 obtain ⟨hl,⟨h,_⟩ | ⟨g',Dr,cur,hv,hg,hh,h1,h2,h3,Fw⟩⟩:=h
 ·cases h
 ·cases hv;refine ⟨by simp at hl ⊢;omega, .inr ⟨g,cap,cur.setIfInBounds (m*2+1) c,rfl,hg,?_,h1,h2,by simpa using h3,?_⟩⟩
  ·simp [World.setCell,Array.getElem?_modify,hh]
  ·rw [Array.toList_setIfInBounds,List.take_set,Fw,List.set_append_right _ _ Ad,show m*2+1-xs.length=1 by omega];rfl
theorem Yfh (a b:Int):FT a b=max a b:=by
 unfold FT;split <;> omega
set_option maxHeartbeats 1000000 in
theorem Ygh (n0:Nat) (lo hi:Int) (w:World) (Du:n0<=w.heap.size) (AY:lo<hi):
  Calls prog 116 #[.slice none 0 0, .agg #[.int .i64 lo, .int .i64 hi]] w λ e w'=>∃ v',e = .returned v'/\w'.ownsRow n0 67 2 v' 1 [.int .i64 lo, .int .i64 hi]/\Below n0 w w':=by
 obtain ⟨i0,JM,FZ,LN,M3⟩:=info_parts bQ;go_enter func116,ntmps116;go_wp2
 go_quiet (fail)
 go_wp2_with (at_builtin;refine wpList_append_own _ rfl _ _ 23 rfl n0 67 i0 (.agg #[.int .i64 0, .int .i64 0]) 2 16 underlying23 JM FZ LN M3 rfl Af _ _ _ rfl (World.ownsRow_nil _ _ _ _) ⟨w.heap.size+1,0,none⟩ 1 1 [.int .i64 lo, .int .i64 hi] rfl ?c1 ?c2 aK ?c4 ?c5 ?c6 ?_)
 case c1=>rfl
 case c2=>exact a7 (T:=67) (y:=(0,0)) (by have:=heap_alloc_new ((w.alloc (Obj.cells #[Value.int IntKind.i64 lo,Value.int IntKind.i64 hi] 67)).drewN nq) (Obj.cells #[Value.int IntKind.i64 lo,Value.int IntKind.i64 hi] 67);simpa using this)
 case c4=>decide
 case c5=>decide
 case c6=>simp;omega
 intro v' w1 E2 MJ NC;go_wp2
 go_ret
 exact ⟨v',rfl,E2,((below_drewN ((Below.refl n0 w).alloc Du _) nq).alloc Ai _).grown MJ Ai (by intro k hk;simp [Value.ownBlock] at hk)⟩
set_option maxHeartbeats 1000000 in
theorem Zl5 (n0 g m cap:Nat) (aa b lo hi:Int) (xs:List Value) (w:World) (Du:n0<=w.heap.size) (AY:lo<hi) (Xdi:b<lo) (hm:m<4294967296)
  (E2:w.ownsRow n0 67 2 (.slice (some ⟨g,0,none⟩) (m+1) cap) (m+1) (xs++[.int .i64 aa, .int .i64 b])) (Pw:xs.length=m*2):
  Calls prog 116 #[.slice (some ⟨g,0,none⟩) (m+1) cap, .agg #[.int .i64 lo, .int .i64 hi]] w λ e w'=>∃ v',e = .returned v'/\w'.ownsRow n0 67 2 v' (m+2) (xs++[.int .i64 aa, .int .i64 b]++[.int .i64 lo, .int .i64 hi])/\Below n0 w w':=by
 obtain ⟨i0,JM,FZ,LN,M3⟩:=info_parts bQ;have hg:g<w.heap.size:=by
  rcases E2.2 with ⟨h,_⟩ | ⟨g',_,_,h,_,hh,_⟩
  ·cases h
  ·cases h;exact (Array.getElem?_eq_some_iff.1 hh).1
 have D0:=(UG E2 (m*2+1) (.int .i64 b) (by rw [AJ Ad,show m*2+1-xs.length=1 by omega];rfl)).1;obtain ⟨Gf,KP⟩:m+1<=cap/\cap<=9223372036854775807:=by
  rcases E2.2 with ⟨h,_⟩ | ⟨g',_,_,h,_,_,h5,h6,_⟩
  ·cases h
  ·cases h;exact ⟨h5,h6⟩
 have h1:(0:Int)<=(m:Int):=by omega
 have h2:(m:Int)<(m:Int)+1:=Ad
 have h3:m+1<=4294967296:=Ad
 have KO:n0<=g:=by
  rcases E2.2 with ⟨h,_⟩ | ⟨g',_,_,h,hb,_⟩
  ·cases h
  ·cases h;exact hb
 have Ij:(w.alloc (.cells #[.int .i64 lo, .int .i64 hi] 67)).cell? ⟨g,m*2+1,none⟩=some (.int .i64 b):=(World.cell?_alloc_lt w _ ⟨g,m*2+1,none⟩ hg).trans D0;have HO:=Lib.hid E2;clear E2 hm D0;go_enter func116,ntmps116;go_wp2
 go_quiet (fail)
 go_wp2_with (at_builtin;refine wpList_append_own _ rfl _ _ 23 rfl n0 67 i0 (.agg #[.int .i64 0, .int .i64 0]) 2 16 underlying23 JM FZ LN M3 rfl Af _ _ _ rfl (Yy6 HO.out _ _ _) ⟨w.heap.size+1,0,none⟩ 1 1 [.int .i64 lo, .int .i64 hi] rfl ?c1 ?c2 aK ?c4 ?c5 ?c6 ?_)
 case c1=>rfl
 case c2=>exact a7 (T:=67) (y:=(0,0)) (by have:=heap_alloc_new ((w.alloc (Obj.cells #[Value.int IntKind.i64 lo,Value.int IntKind.i64 hi] 67)).drewN nq) (Obj.cells #[Value.int IntKind.i64 lo,Value.int IntKind.i64 hi] 67);simpa using this)
 case c4=>unfold maxLen;omega
 case c5=>omega
 case c6=>simp;omega
 intro v' w1 Xse MJ NC;go_wp2
 go_ret
 refine ⟨v',rfl,by simpa using Xse,((below_drewN ((Below.refl n0 w).alloc Du _) nq).alloc Ai _).grown MJ Ai (by intro k hk;simp [Value.ownBlock] at hk;omega)⟩
set_option maxHeartbeats 1000000 in
theorem Zm5 (n0 g m cap:Nat) (aa b lo hi:Int) (xs:List Value) (w:World) (Du:n0<=w.heap.size) (AY:lo<hi) (Xdi:lo<=b) (hm:m<4294967296)
  (E2:w.ownsRow n0 67 2 (.slice (some ⟨g,0,none⟩) (m+1) cap) (m+1) (xs++[.int .i64 aa, .int .i64 b])) (Pw:xs.length=m*2):
  Calls prog 116 #[.slice (some ⟨g,0,none⟩) (m+1) cap, .agg #[.int .i64 lo, .int .i64 hi]] w λ e w'=>∃ v',e = .returned v'/\w'.ownsRow n0 67 2 v' (m+1) (xs++[.int .i64 aa, .int .i64 (FT b hi)])/\Below n0 w w':=by
 have hg:g<w.heap.size:=by
  rcases E2.2 with ⟨h,_⟩ | ⟨g',_,_,h,_,hh,_⟩
  ·cases h
  ·cases h;exact (Array.getElem?_eq_some_iff.1 hh).1
 have D0:=(UG E2 (m*2+1) (.int .i64 b) (by rw [AJ Ad,show m*2+1-xs.length=1 by omega];rfl)).1;obtain ⟨Gf,KP⟩:m+1<=cap/\cap<=9223372036854775807:=by
  rcases E2.2 with ⟨h,_⟩ | ⟨g',_,_,h,_,_,h5,h6,_⟩
  ·cases h
  ·cases h;exact ⟨h5,h6⟩
 have h1:(0:Int)<=(m:Int):=by omega
 have h2:(m:Int)<(m:Int)+1:=Ad
 have h3:m+1<=4294967296:=Ad
 have KO:n0<=g:=by
  rcases E2.2 with ⟨h,_⟩ | ⟨g',_,_,h,hb,_⟩
  ·cases h
  ·cases h;exact hb
 have Ij:(w.alloc (.cells #[.int .i64 lo, .int .i64 hi] 67)).cell? ⟨g,m*2+1,none⟩=some (.int .i64 b):=(World.cell?_alloc_lt w _ ⟨g,m*2+1,none⟩ hg).trans D0;have Y1:(w.alloc (.cells #[.int .i64 lo, .int .i64 hi] 67)).frozen? ⟨g,m*2+1,none⟩=false:=(UG (E2.alloc _) (m*2+1) _ (by rw [AJ Ad,show m*2+1-xs.length=1 by omega];rfl)).2;have HO:=Lib.hid E2;clear E2 hm D0;go_enter func116,ntmps116;go_wp2
 go_quiet (fail)
 go_wp2
 go_region
 go_wp2
 go_ret
 exact ⟨_,rfl,by rw [Yfh];exact zd (w:=(w.alloc (.cells #[.int .i64 lo, .int .i64 hi] 67)).drewN (nq+1)) (HO.out.alloc _) Pw,(below_drewN ((Below.refl n0 w).alloc Du _) (nq+1)).setCell (p:=⟨g,m*2+1,none⟩) KO _⟩
theorem uZ (s:Int×Int):L4 [] s=[s]:=rfl
theorem iP (l:List (Int×Int)) (k s:Int×Int):L4 (l++[k]) s=if s.1<=k.2 then l++[(k.1,FT k.2 s.2)] else l++[k]++[s]:=by
 unfold L4;rw [show (l++[k]).getLast? = some k by simp];dsimp only;by_cases h:s.1<=k.2
 ·rw [if_pos h];simp [BC,h]
 ·rw [if_neg h];simp [BC,h]
theorem Q0 (l:List (Int×Int)) (k:Int×Int):Jo (l++[k])=Jo l++[.int .i64 k.1, .int .i64 k.2]:=by simp [Jo]
theorem We (l:List (Int×Int)):(Jo l).length=l.length*2:=by
 induction l with
 | nil=>rfl
 | cons a l ih=>simp [Jo] at ih ⊢;omega
def xt (n0:Nat) (l:List (Int×Int)) (lo hi:Int) (w:World) (e:Ending) (w':World):Prop:=
 ∃ v',e = .returned v'/\w'.ownsRow n0 67 2 v' (L4 l (lo,hi)).length (Jo (L4 l (lo,hi)))/\Below n0 w w'
theorem Ych (n0:Nat) (v:Value) (l:List (Int×Int)) (lo hi:Int) (w:World) (Du:n0<=w.heap.size) (AY:lo<hi) (hm:l.length<=4294967295)
  (E2:w.ownsRow n0 67 2 v l.length (Jo l)) (NC:l=[]->v = .slice none 0 0):Calls prog 116 #[v, .agg #[.int .i64 lo, .int .i64 hi]] w (xt n0 l lo hi w):=by
 rcases List.eq_nil_or_concat l with rfl | ⟨pre,k,rfl⟩
 ·rw [NC rfl];exact Ygh n0 lo hi w Du AY
 ·rw [List.concat_eq_append] at *;rw [Ap,Q0] at E2;rw [Ap] at hm;simp only [AN] at E2 hm;have hv:∃ g cap,v = .slice (some ⟨g,0,none⟩) (pre.length+1) cap:=by
   rcases E2.2 with ⟨_,h⟩ | ⟨g,cap,_,h,_⟩
   ·omega
   ·exact ⟨g,cap,h⟩
  obtain ⟨g,cap,rfl⟩:=hv;unfold xt;rw [iP];dsimp only;by_cases h:lo<=k.2
  ·rw [if_pos h,Q0,Ap];exact Zm5 n0 g pre.length cap k.1 k.2 lo hi (Jo pre) w Du AY h Ad E2 (We pre)
  ·rw [if_neg h,Q0,Q0,Ap,Ap];exact Zl5 n0 g pre.length cap k.1 k.2 lo hi (Jo pre) w Du AY Ad Ad E2 (We pre)
end Go.Proofs.YtclpadlpcfnfmaaGreat.Am
end

section
namespace Go.Proofs.YtclpadlpcfnfmaaGreat.Am
open Go.Proofs.Tryz
open Go.AM Go.AM.Pure Go.RowKit Go.Shelf Go.Lib
open Go.Sort (Holds putRow)
set_option maxRecDepth 100000
open Go.Proofs
set_option maxHeartbeats 1000000 in
theorem Yxz (w:World):Calls prog 206 #[.slice none 0 0, .int .i64 0, .int .i64 0] w λ e w'=>e = .returned (.tuple #[])/\w'=w:=by
 go_enter func206,ntmps206;go_wp2;refine wp_loop_rounds 1 ?_;rw [rounds_succ];go_wp2
 go_end0
 exact ⟨rfl,rfl⟩
set_option maxHeartbeats 1000000 in
theorem Yyz (u:Value) (w:World):Calls prog 170 #[.slice none 0 0, .int .i64 0, .int .i64 0,u] w λ e w'=>e = .returned (.tuple #[])/\w'=w:=by
 go_enter func170,ntmps170;go_wp2;refine wp_loop_rounds 1 ?_;rw [rounds_succ];go_wp2_with (go_at_call 206;refine (Yxz _).mono ?_;rintro e w' ⟨rfl,rfl⟩);refine bodyPost_ret (results_none rfl _ _ _) rfl ⟨rfl,rfl⟩
set_option maxHeartbeats 1000000 in
theorem Ydh (w:World):Calls prog 115 #[.slice none 0 0] w λ e w'=>e = .returned (.tuple #[])/\w'=w:=by
 go_enter func115,ntmps115;go_wp2_with (first | (go_at_call 170;refine (Yyz _ _).mono ?_;rintro e w' ⟨rfl,rfl⟩) | go_in)
 go_end0
 exact ⟨rfl,rfl⟩
def Lm (l:List Int):List Value:=l.map (Value.int .i64)
theorem Zv0 {n0 g:Nat} {w w':World} (h:BelowX ⟨w.heap.size,[g],[]⟩ w w') (hg:n0<=g) (hn:n0<=w.heap.size):Below n0 w w':=
 ⟨h.os,h.tape,h.output,h.size,λ k hk=>h.block k (Nat.lt_of_lt_of_le hk hn) Ai Ah⟩
theorem Yeh {w:World} {n0:Nat} {l:List Int} {g cap:Nat} {cur:Array Value} (hg:n0<=g) (hh:w.heap[g]? = some (.cells cur 3 (0,0))) (h1:l.length<=cap) (h2:cap<=maxLen) (h3:cur.size=cap)
  (hc:∀ (i:Nat) (x:Int),l[i]? = some x->cur[i]? = some (Value.int .i64 x)):w.ownsRow n0 3 1 (.slice (some ⟨g,0,none⟩) l.length cap) l.length (Lm l):=by
 refine ⟨by simp [Lm], .inr ⟨g,cap,cur,rfl,hg,hh,h1,h2,Ad,?_⟩⟩;apply List.ext_getElem?;intro i;rw [AQ,Nat.mul_one];unfold Lm;rw [List.getElem?_map];split
 ·rename_i hi;rw [AD hi,Option.map_some];have:=hc i l[i] (AD hi);simpa using this
 ·rename_i hi;rw [List.getElem?_eq_none Ad];rfl
theorem xp (n0:Nat) (v:Value) (l:List Int) (w:World) (hn:n0<=w.heap.size) (hl:l.length<4611686018427387904) (ho:w.ownsRow n0 3 1 v l.length (Lm l)):
  Calls prog 115 #[v] w λ e w'=>e = .returned (.tuple #[])/\w'.ownsRow n0 3 1 v (l.mergeSort λ x y=>decide (x<=y)).length (Lm (l.mergeSort λ x y=>decide (x<=y)))/\Below n0 w w':=by
 obtain ⟨hlen,⟨rfl,h0⟩ | ⟨g,cap,cur,rfl,hg,hh,h1,h2,h3,Fw⟩⟩:=ho
 ·have:l=[]:=AU h0;subst this;refine (Ydh w).mono ?_;rintro e w' ⟨rfl,rfl⟩;exact ⟨rfl,by simp [Lm];exact World.ownsRow_nil _ _ _ _,Below.refl _ _⟩
 ·have hci:∀ (i:Nat) (x:Int),l[i]? = some x->cur[i]? = some (Value.int .i64 x):=λ i x hi=>by
   have h5:(Lm l)[i]? = some (Value.int .i64 x):=by unfold Lm;rw [List.getElem?_map,hi];rfl
   rw [<- Fw,AQ] at h5;split at h5
   ·simpa using h5
   ·cases h5
  have hH:Holds (Value.int .i64) w g 0 l.toArray:=by
   have:=holds_of (e:= .int .i64) (ok:=λ _ _=>False) (enc:=Value.int .i64) (fr:=λ x=>x) rfl (λ _=>rfl) hh (Zoh (e:= .int .i64) rfl (l:=l) (λ i x hi=>hci i x hi));rw [List.map_id'] at this;exact this
  refine (Any.slices_Sort_int yH g 0 cap l w hH (Array.getElem?_eq_some_iff.1 hh).1 hl).mono ?_;rintro e w' ⟨rfl,k,os,hw⟩;have YZ:(l.mergeSort λ x y=>decide (x<=y)).length=l.length:=List.length_mergeSort _;obtain ⟨hB,cur',h4,h5,h6⟩:=lY (e:= .int .i64) (to:=λ x=>x) (d:=l.mergeSort λ x y=>decide (x<=y)) rfl (λ _=>rfl) hh Ad hw;refine ⟨rfl,?_,Zv0 hB hg hn⟩;rw [List.map_id'] at h6;have:=Yeh (w:=w') (l:=l.mergeSort λ x y=>decide (x<=y)) hg h4 Ad h2 Ad λ i x hi=>Znh (e:= .int .i64) (ok:=λ _ _=>False) rfl (h6 _) hi
  rw [YZ] at this ⊢;exact this
theorem tK {ok0:Nat->Nat->Prop} (V:Value) (l:List Int) (w:World) (hr:RepD ok0 w (.sl (.int .i64)) l [V]) (hl:l.length<=4294967296):
  Calls prog 114 #[V] w λ e w'=>∃ v,e = .returned v/\w'.ownsRow w.heap.size 3 1 v l.length (Lm l)/\Below w.heap.size w w':=by
 obtain ⟨a,n,cap,hv,DG,hn,Ds,hc⟩:=hr;cases hv;cases a with
 | none=>
  refine (AnyE.slices_Clone_nil lS n cap w).mono ?_;rintro e1 w' ⟨rfl,rfl⟩;have h0:l=[]:=by
   cases l with
   | nil=>rfl
   | cons u us=>
    obtain ⟨A,hA,_⟩:=hc 0 u rfl;cases hA
  subst h0;exact ⟨_,rfl,World.ownsRow_nil _ _ _ _,Below.refl _ _⟩
 | some A=>
  have CN:∀ (j:Nat) (u:Value),(Lm l)[j]? = some u->w.cell? (A.add j)=some u:=by
   intro j u hj;unfold Lm at hj;rw [List.getElem?_map] at hj;cases hq:l[j]? with
   | none=>rw [hq] at hj;cases hj
   | some x=>
    rw [hq] at hj;cases hj;obtain ⟨A',ED,hs,ys,hy,CU⟩:=hc j x hq;cases ED;simp only [RepD] at hy;subst hy;rw [IN A hs];have:=(CU 0 _ rfl).2;simpa [Ty.sz] using this
  have Gb:n*8<=140737488355328:=by
   have:l.length=n:=DG;omega
  have VG:l.length=n:=DG;refine (xo lS t3 _ 1 8 Ag rfl rfl rfl Ag Af sizeOf3 A n cap (Lm l) w (by simp [Lm,VG]) Ad Gb CN ?_).mono ?_
  ·intro u hu;unfold Lm at hu;obtain ⟨x,_,rfl⟩:=List.mem_map.1 hu;rfl
  ·rintro e1 w' ⟨v',rfl,E2,_,D9⟩;exact ⟨v',rfl,by rw [VG];exact E2,D9⟩
theorem PW {ok0:Nat->Nat->Prop} {w w':World} {t:Ty} {x:t.D} {cs:List Value} (h:RepD ok0 w t x cs) (B3:∀ b o,ok0 b o->b<w.heap.size) (hb:Below w.heap.size w w'):RepD ok0 w' t x cs:=
 h.mono λ b o hk=>⟨hk,hb.cell (p:=⟨b,o,none⟩) (B3 b o hk)⟩
theorem Zth {ok0:Nat->Nat->Prop} (V:Value) (l:List Int) (b:Bool) (w:World) {z:Nat} (hz:Lay.ok z w) (B3:∀ b o,ok0 b o->b<w.heap.size) (hr:RepD ok0 w (.sl (.int .i64)) l [V]) (hF:QX l=some b):
  Calls prog 112 #[V, .func (.func 113) #[] #[]] w λ e w'=>e = .returned (.bool b)/\Below w.heap.size w w':=by
 have h:=Zhr [.dat (.sl (.int .i64)) l [], .fn 113 []] _ b rfl hF ok0 w [V, .func (.func 113) #[] #[]] [] [] ⟨z,hz,Ah,Ah⟩ (λ b o hb=>⟨B3 b o hb,Ah,Ah⟩) List.nodup_nil Ah ⟨λ i j b u u' h=>by simp at h,λ b u h=>by simp at h⟩
  ⟨[],[],⟨⟨[V],hr,rfl⟩,rfl,rfl⟩,[],[],⟨⟨[],rfl,trivial⟩,rfl,rfl⟩,rfl,rfl⟩
 refine h.mono ?_;rintro e w' ⟨v,rfl,hb,ρ,hρ,_,_,hr⟩;obtain ⟨us,⟨cs,h1,h2⟩,rfl⟩:=zb (rs:=[(.bool,[])]) (y:=b) hr;simp only [RepD] at h2;subst h2;subst h1;exact ⟨rfl,hb.below⟩
end Go.Proofs.YtclpadlpcfnfmaaGreat.Am
end

section
namespace Go.Proofs.YtclpadlpcfnfmaaGreat.Am
open Go.Proofs.Tryz
open Go.AM Go.AM.Pure Go.RowKit Go.Shelf Go.Lib
set_option maxRecDepth 100000
open Go.Proofs
def Mf (l:List Int) (k:Nat):List (Int×Int):=(l.take k).foldl (λ a n=>L4 a (n,n+1)) []
theorem iO (l:List Int) {k:Nat} (h:k<l.length):Mf l (k+1)=L4 (Mf l k) (l[k],l[k]+1):=by
 unfold Mf;rw [List.take_succ_eq_append_getElem h,List.foldl_append];rfl
theorem Yah (l:List (Int×Int)) (s:Int×Int):L4 l s≠[]:=by
 rcases List.eq_nil_or_concat l with rfl | ⟨p,k,rfl⟩
 ·rw [uZ];simp
 ·rw [List.concat_eq_append,iP];split <;> simp
theorem Zk5 (l:List (Int×Int)) (s:Int×Int):(L4 l s).length<=l.length+1:=by
 rcases List.eq_nil_or_concat l with rfl | ⟨p,k,rfl⟩
 ·rw [uZ];simp
 ·rw [List.concat_eq_append,iP];split <;> simp
theorem Ybh (l:List Int) (k:Nat):(Mf l k).length<=k:=by
 induction k with
 | zero=>simp [Mf]
 | succ k ih=>
  by_cases h:k<l.length
  ·rw [iO l h];have:=Zk5 (Mf l k) (l[k],l[k]+1);omega
  ·unfold Mf at ih ⊢;rw [AL Ad] at ih ⊢;omega
def Xqe (n1:Nat) (w1:World) (l:List Int) (v i:Value) (wr:World):Prop:=
 ∃ k:Nat,k<=l.length/\i = .int .i64 k/\wr.ownsRow n1 67 2 v (Mf l k).length (Jo (Mf l k))/\(Mf l k=[]->v = .slice none 0 0)/\Below n1 w1 wr
def Yw6 (n0:Nat) (w:World) (l:List Int) (e:Ending) (w':World):Prop:=
 ∃ v,e = .returned (.tuple #[v, .int .i64 0])/\w'.ownsRow n0 67 2 v (Mf l l.length).length (Jo (Mf l l.length))/\Below n0 w w'
theorem Zrh {w:World} {n0 n1:Nat} {T:TypeId} {sz n:Nat} {v:Value} {xs:List Value} (h:w.ownsRow n1 T sz v n xs) (hn:n0<=n1):w.ownsRow n0 T sz v n xs:=by
 obtain ⟨hl,h | ⟨g,cap,cur,hv,hg,r⟩⟩:=h
 ·exact ⟨hl, .inl h⟩
 ·exact ⟨hl, .inr ⟨g,cap,cur,hv,Ad,r⟩⟩
set_option maxHeartbeats 2000000 in
theorem Xre {ok0:Nat->Nat->Prop} (V:Value) (l S:List Int) (w:World) {z:Nat} (hz:Lay.ok z w) (B3:∀ b o,ok0 b o->b<w.heap.size) (hr:RepD ok0 w (.sl (.int .i64)) l [V]) (hF:QX l=some false)
  (hl:l.length<=4294967296) (hS:(l.mergeSort λ x y=>decide (x<=y))=S) (ML:∀ x∈S,0<=x/\x<65536):Calls prog 63 #[V] w (Yw6 w.heap.size w S):=by
 have hSl:S.length<=4294967296:=by rw [<- hS,List.length_mergeSort];exact hl
 have HS:=Lib.hid hS;clear hS;have HA:=Lib.hid ML;clear ML;go_enter func63,ntmps63;go_wp2_with fail;refine (Zth V l false w hz B3 hr hF).mono ?_;rintro e w1 ⟨rfl,Ha⟩;have JN:=PW hr B3 Ha;go_wp2_with fail;refine (tK V l w1 JN hl).mono ?_;rintro e w2 ⟨v2,rfl,V6,DE⟩;go_wp2_with fail;refine (xp w1.heap.size v2 l w2 DE.size Ad V6).mono ?_;rintro e w3 ⟨rfl,Zh,hb3⟩;rw [HS.out] at Zh;have Zfr:Below w.heap.size w w3:=Ha.trans ((DE.mono Ha.size).trans (hb3.mono Ha.size));have fI:=Lib.hid Zfr;clear hF hr JN V6 Ha DE hb3 Zfr hz B3;obtain ⟨_,⟨rfl,h0⟩ | ⟨g,cap,cur,rfl,hg,hh,h1,h2,h3,Fw⟩⟩:=id Zh
 ·have hS0:S=[]:=AU h0;subst hS0;clear Zh;go_wp2;refine wp_loop_rounds 1 ?_;rw [rounds_succ];go_wp2;go_ret2;exact ⟨_,rfl,World.ownsRow_nil _ _ _ _,fI.out⟩
 ·have HO:=Lib.hid Zh;have hg3:g<w3.heap.size:=(Array.getElem?_eq_some_iff.1 hh).1;unfold maxLen at h2;clear hh Fw h3 Zh;go_wp2
  go_loopw [5,16] (λ v i wr=>Xqe w3.heap.size w3 S v i wr) (λ _ i _=>S.length-(intOf i).toNat)
  case atStart=>exact ⟨0,Nat.zero_le _,rfl,World.ownsRow_nil _ _ _ _,λ _=>rfl,Below.refl _ _⟩
  case round=>
   obtain ⟨k,hk,rfl,E2,NC,D9⟩:=hrel;have HW:=Lib.hid E2;have HN:=Lib.hid NC;have HB:=Lib.hid D9;clear E2 NC D9;by_cases AY:k<S.length
   ·obtain ⟨x,hx⟩:∃ x,S[k]=x:=⟨_,rfl⟩;have Fb:0<=x/\x<65536:=HA.out x (by rw [<- hx];exact Ay _);obtain ⟨Hr,Is⟩:=Fb;have D0:wr.cell? ⟨g,k,none⟩=some (.int .i64 x):=(HB.out.cell (p:=⟨g,k,none⟩) hg3).trans (UG HO.out k _ (by unfold Lm;rw [List.getElem?_map,AD AY,hx];rfl)).1;have HX:=Lib.hid hx;clear hx;have OB:=Ybh S k;go_wp2_with (go_at_call 116;refine (Ych w3.heap.size _ (Mf S k) x (x+1) _ HB.out.size Ad Ad HW.out HN.out).mono ?_;rintro e w4 ⟨v4,rfl,ho4,hb4⟩;have HV:=Lib.hid ho4;clear ho4)
    go_roundw
    case rel=>exact ⟨k+1,Ad,by go_num,by rw [iO S AY,HX.out];exact HV.out,λ h=>by rw [iO S AY] at h;exact absurd h (Yah _ _),HB.out.trans hb4⟩
    case measure=>simp [intOf];omega
   ·obtain rfl:k=S.length:=Ad
    go_wp2;go_ret2;exact ⟨_,rfl,Zrh HW.out fI.out.size,fI.out.trans (HB.out.mono fI.out.size)⟩
set_option maxHeartbeats 1000000 in
theorem Yx6 {ok0:Nat->Nat->Prop} (V:Value) (l:List Int) (w:World) {z:Nat} (hz:Lay.ok z w) (B3:∀ b o,ok0 b o->b<w.heap.size) (hr:RepD ok0 w (.sl (.int .i64)) l [V]) (hF:QX l=some true):
  Calls prog 63 #[V] w λ e w'=>e = .returned (.tuple #[.slice none 0 0, .int .i64 1])/\Below w.heap.size w w':=by
 go_enter func63,ntmps63;go_wp2_with fail;refine (Zth V l true w hz B3 hr hF).mono ?_;rintro e w1 ⟨rfl,Ha⟩;clear hr B3 hz hF;go_wp2;go_ret2;exact ⟨rfl,Ha⟩
abbrev Qu:Ty:= .pair (.int .i64) (.int .i64)
theorem Zu0 {ok:Nat->Nat->Prop} {w:World} (l:List (Int×Int)):Jr ok w Qu l (Jo l):=by
 refine ⟨We l,λ i x hi=>⟨[.int .i64 x.1, .int .i64 x.2],⟨[.int .i64 x.1],[.int .i64 x.2],rfl,rfl,rfl⟩,λ j u hj=>?_⟩⟩;induction l generalizing i with
 | nil=>cases hi
 | cons a l ih=>
  cases i with
  | zero=>
   cases hi;show (Jo (x :: l))[0*2+j]? = some u;rw [Nat.zero_mul,AF]
   match j,hj with
   | 0,hj=>exact hj
   | 1,hj=>exact hj
   | j+2,hj=>cases hj
  | succ i=>
   have:=ih i hi;show (Jo (a :: l))[(i+1)*2+j]? = some u;rw [show (i+1)*2+j=(i*2+j)+1+1 by omega];exact this
theorem af {ok0:Nat->Nat->Prop} {w w':World} {v:Value} {l:List (Int×Int)} {n:Int} (ho:w'.ownsRow w.heap.size 67 2 v l.length (Jo l)):
  ∃ us,Ph (T6 ok0 w w') w' (Jt [.sl Qu, .int .i64]) (l,n) us/\Ending.returned (.tuple #[v, .int .i64 n]) = .returned (RX us):=
 ⟨[v, .int .i64 n],⟨[v],[.int .i64 n],rfl,aZ (e:=Qu) ho (Zu0 l) λ b o h1 h2=> .inr ⟨h1,h2⟩,[.int .i64 n],rfl,rfl⟩,rfl⟩
@[reducible] def gO : AM.Spec := AM.spec [.val (.sl (.int .i64))] [(.sl (.pair (.int .i64) (.int .i64)), []), (.int .i64, [])] (λ x => SK x.1)
theorem uA:Bh prog 63 gO:=
 W7 (ps:=[.sl (.int .i64)]) (rs:=[.sl Qu, .int .i64]) λ x y hF ok0 w vs z hz B3 ha=>by
  obtain ⟨cs,r,rfl,hr,Hb⟩:=ha;cases Hb;have CM:∃ V,cs=[V]:=by
   obtain ⟨a,n,cap,h,_⟩:=hr;exact ⟨_,h⟩
  obtain ⟨V,rfl⟩:=CM;obtain ⟨l,u⟩:=x;have hF:SK l=some y:=hF;unfold SK at hF;cases Ou:QX l with
  | none=>rw [Ou] at hF;cases hF
  | some b=>
   rw [Ou] at hF;cases b with
   | true=>
    cases hF;refine (Yx6 V l w hz B3 hr Ou).mono ?_;rintro e w' ⟨rfl,hb⟩;exact ⟨af (l:=[]) (World.ownsRow_nil _ _ _ _),hb⟩
   | false=>
    dsimp only [Option.bind,cond] at hF;cases hg:(decide (l.length<=4294967296) && l.all (λ n=>BC 0 n && A8 n 65536)) with
    | false=>rw [hg] at hF;cases hF
    | true=>
     rw [hg] at hF;cases hF;rw [Bool.and_eq_true,List.all_eq_true] at hg;have hS:(l.mergeSort λ x y=>decide (x<=y)).length=l.length:=List.length_mergeSort _;refine (Xre V l _ w hz B3 hr Ou (Az hg.1) rfl λ x hx=>?_).mono ?_
     ·have:=hg.2 x (List.mem_mergeSort.1 hx);rw [Bool.and_eq_true] at this;exact ⟨Az this.1,Az this.2⟩
     ·rintro e w' ⟨v,rfl,ho,hb⟩;unfold Mf at ho;rw [AB] at ho;exact ⟨af ho,hb⟩
end Go.Proofs.YtclpadlpcfnfmaaGreat.Am
end

section
namespace Go.Proofs.YtclpadlpcfnfmaaGreat.Am
open Go.Proofs.Tryz
open Go.AM Go.AM.Pure Go.RowKit Go.Shelf Go.Lib
set_option maxRecDepth 100000
open Go.Proofs
def ND (N B:Nat) (l:List (Int×Int)) (W:World):Prop:=∃ v,Boxed W B 23 v/\W.ownsRow N 67 2 v l.length (Jo l)/\(l=[]->v = .slice none 0 0)
def jB (N B:Nat) (l:List (Int×Int)) (W:World) (e:Ending) (W':World):Prop:=e = .returned (.bool true)/\ND N B l W'/\Below N W W'
set_option maxHeartbeats 1000000 in
theorem Yzg (N B:Nat) (at_:Int) (W:World) (hN:N<=W.heap.size) (hB:N<=B) (h0:0<=at_) (h1:at_<=65600) (hv:Boxed W B 23 (.slice none 0 0)):
  Calls prog 111 #[.int .i64 at_, .pointer (some ⟨B,0,none⟩)] W (jB N B [(at_,at_+1)] W):=by
 obtain ⟨i0,JM,FZ,LN,M3⟩:=info_parts bQ;have hc:=hv.cell;have HR:=Lib.hid (World.ownsRow_nil W N 67 2);go_enter func111,ntmps111;go_wp2_with (at_builtin;refine wpList_append_own _ rfl _ _ 23 rfl N 67 i0 (.agg #[.int .i64 0, .int .i64 0]) 2 16 underlying23 JM FZ LN M3 rfl Af _ _ _ rfl (HR.out.alloc _) ⟨W.heap.size,0,none⟩ 1 1 [.int .i64 at_, .int .i64 (at_+1)] rfl rfl (by exact a7 (T:=67) (y:=(0,0)) (heap_alloc_new W _)) aK (by unfold maxLen;omega) Ad Ai ?_;intro v' w1 Tk MJ _;obtain ⟨g',Dr,rfl⟩:=ownsRow_succ Tk;obtain ⟨TJ,TL,Jj,LB,DE⟩:=hv.appended Af HR.out hN hB Tk MJ;have Ij:=TJ.cell;have Y1:=TJ.frozen;have H2:=Lib.hid (And.intro TL (And.intro Jj DE));clear TL Jj LB DE Tk MJ)
 go_ret
 exact ⟨rfl,⟨_,H2.out.1,H2.out.2.1,Ah⟩,H2.out.2.2⟩
set_option maxHeartbeats 1000000 in
theorem Zi5 (N B g m cap:Nat) (aa b at_:Int) (xs:List Value) (W:World) (hN:N<=W.heap.size) (hB:N<=B) (h0:0<=at_) (h1:at_<=65600) (hm:m<4294967295) (Cg:¬ b=at_)
  (hv:Boxed W B 23 (.slice (some ⟨g,0,none⟩) (m+1) cap)) (Cj:W.ownsRow N 67 2 (.slice (some ⟨g,0,none⟩) (m+1) cap) (m+1) (xs++[.int .i64 aa, .int .i64 b])) (Pw:xs.length=m*2):
  Calls prog 111 #[.int .i64 at_, .pointer (some ⟨B,0,none⟩)] W λ e W'=>e = .returned (.bool true)/\(∃ v,Boxed W' B 23 v/\W'.ownsRow N 67 2 v (m+1+1) (xs++[.int .i64 aa, .int .i64 b]++[.int .i64 at_, .int .i64 (at_+1)]))/\Below N W W':=by
 obtain ⟨i0,JM,FZ,LN,M3⟩:=info_parts bQ;have D0:=(UG Cj (m*2+1) (.int .i64 b) (by rw [AJ Ad,show m*2+1-xs.length=1 by omega];rfl)).1;obtain ⟨Gf,KP⟩:m+1<=cap/\cap<=9223372036854775807:=by
  rcases Cj.2 with ⟨h,_⟩ | ⟨g',_,_,h,_,_,h5,h6,_⟩
  ·cases h
  ·cases h;exact ⟨h5,h6⟩
 have h2:(0:Int)<=(m:Int):=by omega
 have h3:(m:Int)<(m:Int)+1:=Ad
 have h4:m+1<=4294967296:=Ad
 have hc:=hv.cell;have HR:=Lib.hid Cj;clear Cj hm;go_enter func111,ntmps111;go_wp2_with (at_builtin;refine wpList_append_own _ rfl _ _ 23 rfl N 67 i0 (.agg #[.int .i64 0, .int .i64 0]) 2 16 underlying23 JM FZ LN M3 rfl Af _ _ _ rfl (HR.out.alloc _) ⟨W.heap.size,0,none⟩ 1 1 [.int .i64 at_, .int .i64 (at_+1)] rfl rfl (by exact a7 (T:=67) (y:=(0,0)) (heap_alloc_new W _)) aK (by unfold maxLen;omega) Ad Ai ?_;intro v' w1 Tk MJ _;obtain ⟨g',Dr,rfl⟩:=ownsRow_succ Tk;obtain ⟨TJ,TL,Jj,LB,DE⟩:=hv.appended Af HR.out hN hB Tk MJ;have Ij:=TJ.cell;have Y1:=TJ.frozen;have H2:=Lib.hid (And.intro TL (And.intro Jj DE));clear TL Jj LB DE Tk MJ)
 go_ret
 exact ⟨rfl,⟨_,H2.out.1,H2.out.2.1⟩,H2.out.2.2⟩
set_option maxHeartbeats 1000000 in
theorem Zj5 (N B g m cap:Nat) (aa at_:Int) (xs:List Value) (W:World) (hN:N<=W.heap.size) (hB:N<=B) (h0:0<=at_) (h1:at_<=65600) (hm:m<4294967295)
  (hv:Boxed W B 23 (.slice (some ⟨g,0,none⟩) (m+1) cap)) (Cj:W.ownsRow N 67 2 (.slice (some ⟨g,0,none⟩) (m+1) cap) (m+1) (xs++[.int .i64 aa, .int .i64 at_])) (Pw:xs.length=m*2):
  Calls prog 111 #[.int .i64 at_, .pointer (some ⟨B,0,none⟩)] W λ e W'=>e = .returned (.bool true)/\(∃ v,Boxed W' B 23 v/\W'.ownsRow N 67 2 v (m+1) (xs++[.int .i64 aa, .int .i64 (at_+1)]))/\Below N W W':=by
 obtain ⟨D0,Xyi⟩:=UG Cj (m*2+1) (.int .i64 at_) (by rw [AJ Ad,show m*2+1-xs.length=1 by omega];rfl);obtain ⟨Gf,KP,hg⟩:m+1<=cap/\cap<=9223372036854775807/\N<=g:=by
  rcases Cj.2 with ⟨h,_⟩ | ⟨g',_,_,h,hg,_,h5,h6,_⟩
  ·cases h
  ·cases h;exact ⟨h5,h6,hg⟩
 have Cg:=hv.not_row Af Cj;have h2:(0:Int)<=(m:Int):=by omega
 have h3:(m:Int)<(m:Int)+1:=Ad
 have h4:m+1<=4294967296:=Ad
 have hc:=hv.cell;have HR:=Lib.hid Cj;have HB:=Lib.hid hv;have HE:=Lib.hid Cg;clear Cj hm hv Cg;go_enter func111,ntmps111;go_wp2
 go_ret
 refine ⟨rfl,⟨_,?_,zd HR.out Pw⟩,(Below.refl N W).setCell (p:=⟨g,m*2+1,none⟩) hg _⟩;exact (Below.heap_setCell W ⟨g,m*2+1,none⟩ _ B (λ e=>HE.out (by rw [e];rfl))).trans HB.out
theorem aL (l:List (Int×Int)) (k:Int×Int) (n:Int):J6 (l++[k]) n=if k.2=n then l++[(k.1,n+1)] else l++[k]++[(n,n+1)]:=by
 unfold J6;rw [show (l++[k]).getLast? = some k by simp];dsimp only;by_cases h:k.2=n
 ·rw [if_pos h];simp [A9,h]
 ·rw [if_neg h,show A9 k.2 n=false from beq_false_of_ne h];rfl
theorem Ywz (l:List (Int×Int)) (n:Int):J6 l n≠[]:=by
 rcases List.eq_nil_or_concat l with rfl | ⟨p,k,rfl⟩
 ·simp [J6]
 ·rw [List.concat_eq_append,aL];split <;> simp
theorem Ywg (l:List (Int×Int)) (n:Int):(J6 l n).length<=l.length+1:=by
 rcases List.eq_nil_or_concat l with rfl | ⟨p,k,rfl⟩
 ·simp [J6]
 ·rw [List.concat_eq_append,aL];split <;> simp
theorem Yyg (N B:Nat) (l:List (Int×Int)) (at_:Int) (W:World) (hN:N<=W.heap.size) (hB:N<=B) (h0:0<=at_) (h1:at_<=65600) (hm:l.length<=4294967295) (hC:ND N B l W):
  Calls prog 111 #[.int .i64 at_, .pointer (some ⟨B,0,none⟩)] W (jB N B (J6 l at_) W):=by
 obtain ⟨v,hv,Cj,NC⟩:=hC;rcases List.eq_nil_or_concat l with rfl | ⟨pre,k,rfl⟩
 ·rw [NC rfl] at hv;exact Yzg N B at_ W hN hB h0 h1 hv
 ·rw [List.concat_eq_append] at *;rw [Ap,Q0] at Cj;rw [Ap] at hm;simp only [AN] at Cj hm;have hvf:∃ g cap,v = .slice (some ⟨g,0,none⟩) (pre.length+1) cap:=by
   rcases Cj.2 with ⟨_,h⟩ | ⟨g,cap,_,h,_⟩
   ·omega
   ·exact ⟨g,cap,h⟩
  obtain ⟨g,cap,rfl⟩:=hvf;unfold jB;have Cg:=Ywz (pre++[k]) at_;by_cases h:k.2=at_
  ·rw [aL,if_pos h] at Cg ⊢;subst h;refine (Zj5 N B g pre.length cap k.1 k.2 (Jo pre) W hN hB h0 h1 Ad hv Cj (We pre)).mono ?_;rintro e W' ⟨he,⟨v',IT,ho⟩,hb⟩;refine ⟨he,⟨v',IT,?_,λ h=>absurd h Cg⟩,hb⟩;rw [Q0,Ap];exact ho
  ·rw [aL,if_neg h] at Cg ⊢;refine (Zi5 N B g pre.length cap k.1 k.2 at_ (Jo pre) W hN hB h0 h1 Ad h hv Cj (We pre)).mono ?_;rintro e W' ⟨he,⟨v',IT,ho⟩,hb⟩;refine ⟨he,⟨v',IT,?_,λ h=>absurd h Cg⟩,hb⟩;rw [Q0,Q0,Ap,Ap];exact ho
end Go.Proofs.YtclpadlpcfnfmaaGreat.Am
end

section
namespace Go.Proofs.YtclpadlpcfnfmaaGreat.Am
open Go.Proofs.Tryz
open Go.AM Go.AM.Pure Go.RowKit Go.Shelf Go.Lib
set_option maxRecDepth 100000
open Go.Proofs
theorem rW:∀ {n:Nat} {w b:Int} {l:List Int},F7 n w b=some l->F7 (n+1) w b=some l
 | 0,_,_,_,h=>by cases h
 | n+1,w,b,l,h=>by
  have h':=h;unfold F7 at h';show (OO w b).bind _=some l;cases hc:OO w b with
  | none=>rw [hc] at h';cases h'
  | some c=>
   rw [hc] at h';dsimp only [Option.bind] at h' ⊢;cases h1:A8 c 0 with
   | true=>rw [h1] at h';exact h'
   | false=>
    rw [h1] at h';cases h2:A8 c 64 with
    | false=>rw [h2] at h';cases h'
    | true=>
     rw [h2] at h';dsimp only [cond] at h' ⊢;cases h3:F7 n w (c+1) with
     | none=>rw [h3] at h';cases h'
     | some r=>
      rw [h3] at h';rw [rW h3];exact h'
theorem Zix {n m:Nat} {w b:Int} {l:List Int} (h:F7 n w b=some l) (hm:n<=m):F7 m w b=some l:=by
 induction hm with
 | refl=>exact h
 | step _ ih=>exact rW ih
def Ch (w b:Int) (rest:List Int):Prop:=(rest=[]/\b<0)\/∃ n Tg,n<=70/\rest=b :: Tg/\0<=b/\b<64/\F7 n w (b+1)=some Tg
theorem dK {n:Nat} {w b0:Int} {l:List Int} (h:F7 n w b0=some l) (hn:n<=70):∃ c,OO w b0=some c/\Ch w c l:=by
 cases n with
 | zero=>cases h
 | succ n=>
  unfold F7 at h;cases hc:OO w b0 with
  | none=>rw [hc] at h;cases h
  | some c=>
   rw [hc] at h;dsimp only [Option.bind] at h;refine ⟨c,rfl,?_⟩;cases h1:A8 c 0 with
   | true=>
    rw [h1] at h;cases h;exact .inl ⟨rfl,Az h1⟩
   | false=>
    rw [h1] at h;cases h2:A8 c 64 with
    | false=>rw [h2] at h;cases h
    | true=>
     rw [h2] at h;dsimp only [cond] at h;cases h3:F7 n w (c+1) with
     | none=>rw [h3] at h;cases h
     | some r=>
      rw [h3] at h;cases h;have:=of_decide_eq_false h1;exact .inr ⟨n,r,Ad,rfl,Ad,Az h2,h3⟩
noncomputable def dL (w b:Int):Nat:=if b<0 then 0 else ((F7 70 w (b+1)).getD []).length+1
theorem aJ {w b:Int} {rest:List Int} (h:Ch w b rest):dL w b=rest.length:=by
 unfold dL;rcases h with ⟨rfl,h⟩ | ⟨n,Tg,hn,rfl,h0,_,h1⟩
 ·rw [if_pos h];rfl
 ·rw [if_neg Ad,Zix h1 hn];rfl
def fold (l:List Int):List (Int×Int):=l.foldl J6 []
theorem uY (l:List Int) (x:Int):fold (l++[x])=J6 (fold l) x:=by unfold fold;rw [List.foldl_append];rfl
theorem Zh5 (l:List Int):∀ n,l.length=n->(fold l).length<=n:=by
 intro n;induction n generalizing l with
 | zero=>intro h;rw [AU h];exact Au _
 | succ n ih=>
  intro h;rcases List.eq_nil_or_concat l with rfl | ⟨p,x,rfl⟩
  ·cases h
  ·rw [List.concat_eq_append] at h ⊢;rw [uY];have:=Ywg (fold p) x;have:=ih p (by simpa using h);omega
theorem Yxg (l:List Int):(fold l).length<=l.length:=Zh5 l _ rfl
def II (ws:List Int) (k:Nat):List Int:=(List.range k).flatMap λ j=>((F7 70 (ws.getD j 0) 0).getD []).map λ b=>64*(j:Int)+b
theorem UF (ws:List Int) (k:Nat):II ws (k+1)=II ws k++((F7 70 (ws.getD k 0) 0).getD []).map λ b=>64*(k:Int)+b:=by
 unfold II;rw [List.range_succ,List.flatMap_append];simp
theorem Yu6 (ws:List Int) {k n:Nat} (h:k<=n):(II ws k).length<=(II ws n).length:=by
 induction h with
 | refl=>exact Au _
 | step _ ih=>rw [UF,Ap];omega
theorem aI (w b c:Int) (W:World) (hF:OO w b=some c):Calls prog 85 #[.int .i64 w, .int .i64 b] W λ e W'=>e = .returned (.int .i64 c)/\Below W.heap.size W W':=by
 have hz:Lay.ok 0 W:=⟨rfl,Nat.zero_le _⟩;refine (UN (ps:=[.int .i64, .int .i64]) (rs:=[(.int .i64,[])]) (x:=(w,b,())) (y:=c) (F:=λ x=>OO x.1 x.2.1) Zjx hF (ok0:=λ _ _=>False) (vs:=[.int .i64 w, .int .i64 b]) hz (λ _ _ h=>h.elim) ⟨[.int .i64 w],_,rfl,rfl,[.int .i64 b],_,rfl,rfl,rfl⟩).mono ?_;rintro e W' ⟨⟨us,⟨cs,h1,h2⟩,rfl⟩,hb⟩;simp only [RepD] at h2;subst h2;subst h1;exact ⟨rfl,hb⟩
theorem jU {ok0:Nat->Nat->Prop} {w:World} {N:Nat} {ws:List Int} {V:Value} (h:RepD ok0 w (.sl (.int .i64)) ws [V]) (B3:∀ b o,ok0 b o->b<N):
  (ws=[]/\∃ a cap,V = .slice a 0 cap)\/∃ b off cap,V = .slice (some ⟨b,off,none⟩) ws.length cap/\ws.length<=cap/\cap<=9223372036854775807/\b<N/\∀ (k:Nat),k<ws.length->w.cell? ⟨b,off+k,none⟩=some (.int .i64 (ws.getD k 0)):=by
 obtain ⟨a,n,cap,hv,DG,hn,Ds,hc⟩:=h;cases hv;have VG:ws.length=n:=DG;subst VG;cases ws with
 | nil=>exact .inl ⟨rfl,a,cap,rfl⟩
 | cons u us=>
  obtain ⟨A,hA,hs,ys,hy,CU⟩:=hc 0 u rfl;cases hA;simp only [RepD] at hy;subst hy;obtain ⟨Ab,Ao,As⟩:=A;dsimp only at hs;subst hs;refine .inr ⟨Ab,Ao,cap,rfl,hn,Ds,B3 _ _ (CU 0 _ rfl).1,λ k hk=>?_⟩;have hx:(u :: us)[k]? = some ((u :: us).getD k 0):=by
   rw [AK,AD hk];rfl
  obtain ⟨A',ED,_,ys,hy,Xci⟩:=hc k _ hx;cases ED;simp only [RepD] at hy;subst hy;have:=(Xci 0 _ rfl).2;simpa [Ty.sz] using this
theorem tN {N B:Nat} {l:List (Int×Int)} {W W':World} (h:ND N B l W) (hb:Below W.heap.size W W'):ND N B l W':=by
 obtain ⟨v,hv,ho,NC⟩:=h;refine ⟨v,(hb.block B hv.lt).trans hv,?_,NC⟩;obtain ⟨hl,h | ⟨g,cap,cur,hv,hg,hh,r⟩⟩:=ho
 ·exact ⟨hl, .inl h⟩
 ·exact ⟨hl, .inr ⟨g,cap,cur,hv,hg,(hb.block g (Array.getElem?_eq_some_iff.1 hh).1).trans hh,r⟩⟩
def jA (N B:Nat) (ps:List Int) (W:World) (e:Ending) (W':World):Prop:=e = .returned (.tuple #[])/\ND N B (fold ps) W'/\Below N W W'
def Yv6 (N B:Nat) (ws:List Int) (W:World) (i:Value) (wr:World):Prop:=
 ∃ k:Nat,k<=ws.length/\i = .int .i64 k/\ND N B (fold (II ws k)) wr/\Below N W wr
def Xpe (N B:Nat) (ws:List Int) (k:Nat) (W:World) (v:Value) (wr:World):Prop:=
 ∃ (b:Int) (done rest:List Int),v = .int .i64 b/\F7 70 (ws.getD k 0) 0=some (done++rest)/\Ch (ws.getD k 0) b rest/\ND N B (fold (II ws k++done.map λ b=>64*(k:Int)+b)) wr/\Below N W wr
set_option maxHeartbeats 2000000 in
theorem Ze5 (N B b off cap:Nat) (ws:List Int) (W:World) (hN:N<=W.heap.size) (hB:N<=B) (hl:ws.length<=1024) (Gf:ws.length<=cap) (KP:cap<=9223372036854775807) (hb:b<N)
  (hc:∀ (k:Nat),k<ws.length->W.cell? ⟨b,off+k,none⟩=some (.int .i64 (ws.getD k 0))) (L5:∀ k,k<ws.length->∃ bs,F7 70 (ws.getD k 0) 0=some bs) (ER:(II ws ws.length).length<=4294967295) (hC:ND N B [] W):
  Calls prog 110 #[.slice (some ⟨b,off,none⟩) ws.length cap, .func (.func 111) #[] #[.pointer (some ⟨B,0,none⟩)]] W (jA N B (II ws ws.length) W):=by
 have HC:=Lib.hid hc;have HB:=Lib.hid L5;have H0:=Lib.hid hC;clear hc L5 hC;go_enter func110,ntmps110;go_wp2
 go_loopw [9] (λ i wr=>Yv6 N B ws W i wr) (λ i _=>ws.length-(intOf i).toNat)
 case atStart=>exact ⟨0,Nat.zero_le _,rfl,H0.out,Below.refl _ _⟩
 case round=>
  obtain ⟨k,hk,rfl,Th,D9⟩:=hrel;have HK:=Lib.hid Th;have HL:=Lib.hid D9;clear Th D9;by_cases AY:k<ws.length
  ·obtain ⟨x,hx⟩:∃ x,ws.getD k 0=x:=⟨_,rfl⟩;obtain ⟨bs,Ey⟩:=HB.out k AY;obtain ⟨c,JH,KQ⟩:=dK Ey (Au _);have D0:wr.cell? ⟨b,off+k,none⟩=some (.int .i64 x):=by rw [<- hx];exact (HL.out.cell (p:=⟨b,off+k,none⟩) hb).trans (HC.out k AY)
   rw [hx] at JH;have HX:=Lib.hid hx;have H1:=Lib.hid JH;have H2:=Lib.hid KQ;have H3:=Lib.hid Ey;clear hx JH KQ Ey;go_wp2_with (go_at_call 85;refine (aI x 0 c _ H1.out).mono ?_;rintro e w2 ⟨rfl,DE⟩;have H4:=Lib.hid DE;clear DE);have HZ:Below N W w2:=HL.out.trans (H4.out.mono (Nat.le_trans hN HL.out.size));have H5:=Lib.hid HZ;clear HZ;obtain ⟨wo,fH⟩:∃ wo:World,wo=w2:=⟨_,rfl⟩
   go_loopw [6] (λ v wq=>Xpe N B ws k W v wq) (λ v _=>dL x (intOf v))
   case atStart=>
    refine ⟨c,[],bs,rfl,?_,?_,?_,H5.out⟩
    ·exact H3.out
    ·exact H2.out
    ·simp only [List.map_nil,AE];exact tN HK.out H4.out
   case round=>
    obtain ⟨d,done,rest,rfl,Ey,KQ,Th,D9⟩:=hrel;rw [HX.out] at Ey KQ;have Tz:=aJ KQ;rcases KQ with ⟨rfl,hd⟩ | ⟨n,Tg,hn,rfl,h0,BH,JL⟩
    ·have G1:=Lib.hid Ey;have G2:=Lib.hid Th;have G3:=Lib.hid D9;clear Ey Th D9 Tz;go_wp2
     go_roundw
     case rel=>
      refine ⟨k+1,Ad,by go_num,?_,G3.out⟩;rw [UF,HX.out,G1.out,AE];exact G2.out
     case measure=>simp [intOf];omega
    ·have hlen:(fold (II ws k++done.map λ b=>64*(k:Int)+b)).length<=4294967295:=by
      have h1:=Yxg (II ws k++done.map λ b=>64*(k:Int)+b);have h2:=Yu6 ws (show k+1<=ws.length by omega);rw [UF,HX.out,Ey] at h2;simp only [Ap,Av,Option.getD_some,Aw] at h1 h2;omega
     obtain ⟨c2,Mi,TA⟩:=dK JL hn;have YQ:=aJ TA;have Je:=uY (II ws k++done.map λ b=>64*(k:Int)+b) (64*(k:Int)+d);have G1:=Lib.hid Ey;have G2:=Lib.hid Th;have G3:=Lib.hid D9;have G4:=Lib.hid Mi;have G5:=Lib.hid TA;have G6:=Lib.hid Tz;have G7:=Lib.hid YQ;have G8:=Lib.hid Je;have G9:=Lib.hid hlen;clear Ey Th D9 Tz JL Mi TA YQ Je hlen fH
     go_wp2_with (first
      | (go_at_call 111;refine (Yyg N B _ (64*(k:Int)+d) _ (Nat.le_trans hN G3.out.size) hB Ad Ad G9.out G2.out).mono ?_;rintro e w5 ⟨rfl,hc5,Mt⟩;have F1:=Lib.hid hc5;have F2:=Lib.hid Mt;clear hc5 Mt)
      | (go_at_call 85;refine (aI x (d+1) c2 _ G4.out).mono ?_;rintro e w6 ⟨rfl,Zf⟩;have F3:=Lib.hid Zf;clear Zf))
     go_roundw
     case rel=>
      refine ⟨c2,done++[d],Tg,rfl,?_,?_,?_,G3.out.trans (F2.out.trans (F3.out.mono (Nat.le_trans (Nat.le_trans hN G3.out.size) F2.out.size)))⟩
      ·rw [HX.out,G1.out,AA];rfl
      ·rw [HX.out];exact G5.out
      ·rw [AG,<- AA];show ND N B (fold (_++[64*(k:Int)+d])) _;rw [G8.out];exact tN F1.out F3.out
     case measure=>
      have e1:=G6.out;have e2:=G7.out;simp only [intOf];rw [e1,e2];simp
  ·obtain rfl:k=ws.length:=Ad
   go_wp2
   go_end0
   exact ⟨rfl,HK.out,HL.out⟩
end Go.Proofs.YtclpadlpcfnfmaaGreat.Am
end

section
namespace Go.Proofs.YtclpadlpcfnfmaaGreat.Am
open Go.Proofs.Tryz
open Go.AM Go.AM.Pure Go.RowKit Go.Shelf Go.Lib
set_option maxRecDepth 100000
open Go.Proofs
set_option maxHeartbeats 1000000 in
theorem Zd5 (N B:Nat) (a:Option Addr) (cap:Nat) (W:World) (hC:ND N B [] W):
  Calls prog 110 #[.slice a 0 cap, .func (.func 111) #[] #[.pointer (some ⟨B,0,none⟩)]] W (jA N B [] W):=by
 have H0:=Lib.hid hC;clear hC;go_enter func110,ntmps110;go_wp2;refine wp_loop_rounds 1 ?_;rw [rounds_succ];go_wp2
 go_end0
 exact ⟨rfl,H0.out,Below.refl _ _⟩
theorem zc {ok0:Nat->Nat->Prop} (V:Value) (ws:List Int) (b:Bool) (w:World) (B3:∀ b o,ok0 b o->b<w.heap.size) (hr:RepD ok0 w (.sl (.int .i64)) ws [V]) (hF:My ws=some b):
  Calls prog 109 #[V] w λ e w'=>e = .returned (.bool b)/\Below w.heap.size w w':=by
 refine (UN (ps:=[.sl (.int .i64)]) (rs:=[(.bool,[])]) (x:=(ws,())) (y:=b) (F:=λ x=>My x.1) gH hF (vs:=[V]) (z:=0) ⟨rfl,Nat.zero_le _⟩ B3 ⟨[V],_,rfl,hr,rfl⟩).mono ?_;rintro e W' ⟨⟨us,⟨cs,h1,h2⟩,rfl⟩,hb⟩;simp only [RepD] at h2;subst h2;subst h1;exact ⟨rfl,hb⟩
theorem tM:∀ (ws:List Int) (k:Nat) (ps:List Int),ME (k:Int) ws=some ps->
  ps=((List.range ws.length).flatMap λ j=>((F7 70 (ws.getD j 0) 0).getD []).map λ b=>64*((k+j:Nat):Int)+b)/\∀ j,j<ws.length->∃ bs,F7 70 (ws.getD j 0) 0=some bs
 | [],k,ps,h=>by
  cases h;exact ⟨rfl,λ j hj=>by cases hj⟩
 | w :: ws,k,ps,h=>by
  have h:(F7 70 w 0).bind (λ bs=>(ME ((k:Int)+1) ws).bind λ r=>some (bs.map (λ b=>64*(k:Int)+b)++r))=some ps:=h;cases h1:F7 70 w 0 with
  | none=>rw [h1] at h;cases h
  | some bs=>
   rw [h1] at h;dsimp only [Option.bind] at h;cases h2:ME ((k:Int)+1) ws with
   | none=>rw [h2] at h;cases h
   | some r=>
    rw [h2] at h;cases h;obtain ⟨h3,h4⟩:=tM ws (k+1) r (by rw [<- h2];rfl);refine ⟨?_,λ j hj=>?_⟩
    ·rw [Aw,List.range_succ_eq_map,List.flatMap_cons,List.flatMap_map,h3];congr 1
     ·show _=((F7 70 w 0).getD []).map _;rw [h1];rfl
     ·congr 1;funext j;show _=((F7 70 (ws.getD j 0) 0).getD []).map _;congr 1;funext b;congr 2;push_cast;omega
    ·cases j with
     | zero=>exact ⟨bs,h1⟩
     | succ j=>exact h4 j (by simpa using hj)
theorem Zsh {ws ps:List Int} (h:ME 0 ws=some ps):ps=II ws ws.length/\∀ j,j<ws.length->∃ bs,F7 70 (ws.getD j 0) 0=some bs:=by
 obtain ⟨h1,h2⟩:=tM ws 0 ps h;refine ⟨?_,h2⟩;rw [h1];unfold II;simp
theorem Yug {ok0:Nat->Nat->Prop} (N B:Nat) (V:Value) (ws ps:List Int) (W:World) (hN:N<=W.heap.size) (hB:N<=B) (hl:ws.length<=1024) (B3:∀ b o,ok0 b o->b<N) (hr:RepD ok0 W (.sl (.int .i64)) ws [V])
  (hp:ME 0 ws=some ps) (ER:ps.length<=4294967295) (hC:ND N B [] W):Calls prog 110 #[V, .func (.func 111) #[] #[.pointer (some ⟨B,0,none⟩)]] W (jA N B ps W):=by
 obtain ⟨rfl,L5⟩:=Zsh hp;rcases jU hr B3 with ⟨rfl,a,cap,rfl⟩ | ⟨b,off,cap,rfl,h1,h2,h3,h4⟩
 ·exact Zd5 N B a cap W hC
 ·exact Ze5 N B b off cap ws W hN hB hl h1 h2 h3 h4 L5 ER hC
set_option maxHeartbeats 1000000 in
theorem Yvg {ok0:Nat->Nat->Prop} (V:Value) (ws:List Int) (w:World) (B3:∀ b o,ok0 b o->b<w.heap.size) (hr:RepD ok0 w (.sl (.int .i64)) ws [V]) (hF:My ws=some false):
  Calls prog 62 #[V] w λ e w'=>e = .returned (.tuple #[.slice none 0 0, .int .i64 1])/\Below w.heap.size w w':=by
 go_enter func62,ntmps62;go_wp2_with fail;refine (zc V ws false w B3 hr hF).mono ?_;rintro e w1 ⟨rfl,Ha⟩;clear hr B3 hF;go_wp2;go_ret2;exact ⟨rfl,Ha⟩
def Zf5 (n0:Nat) (w:World) (ps:List Int) (e:Ending) (w':World):Prop:=
 ∃ v,e = .returned (.tuple #[v, .int .i64 0])/\w'.ownsRow n0 67 2 v (fold ps).length (Jo (fold ps))/\Below n0 w w'
set_option maxHeartbeats 1000000 in
theorem Zg5 {ok0:Nat->Nat->Prop} (V:Value) (ws ps:List Int) (w:World) (B3:∀ b o,ok0 b o->b<w.heap.size) (hr:RepD ok0 w (.sl (.int .i64)) ws [V]) (hF:My ws=some true)
  (hl:ws.length<=1024) (hp:ME 0 ws=some ps) (ER:ps.length<=4294967295):Calls prog 62 #[V] w (Zf5 w.heap.size w ps):=by
 go_enter func62,ntmps62;go_wp2_with fail;refine (zc V ws true w B3 hr hF).mono ?_;rintro e w1 ⟨rfl,Ha⟩;have JN:=PW (PW hr B3 Ha) (w':=w1.alloc (.cells #[.slice none 0 0] 23)) (λ b o h=>Nat.lt_of_lt_of_le (B3 b o h) Ha.size) ((Below.refl _ _).alloc (Au _) _);have hC:ND w.heap.size w1.heap.size [] (w1.alloc (.cells #[.slice none 0 0] 23)):=⟨_,Boxed.new w1 23 _,World.ownsRow_nil _ _ _ _,λ _=>rfl⟩;have HA:=Lib.hid (Yug w.heap.size w1.heap.size V ws ps _ (by simp;have:=Ha.size;omega) Ha.size hl B3 JN hp ER hC);have H1:=Lib.hid Ha;clear hr B3 hF JN hC Ha hp;go_wp2_with fail;refine HA.out.mono ?_;rintro e w2 ⟨rfl,⟨v,hv,ho,_⟩,DE⟩;have hc:=hv.cell;have HO:=Lib.hid ho;have H2:=Lib.hid DE;clear ho DE hv;go_wp2;go_ret2;exact ⟨v,rfl,HO.out,(H1.out.alloc H1.out.size _).trans H2.out⟩
@[reducible] def rM : AM.Spec := AM.spec [.val (.sl (.int .i64))] [(.sl (.pair (.int .i64) (.int .i64)), []), (.int .i64, [])] (λ x => Wo x.1)
theorem Zrt:Bh prog 62 rM:=
 W7 (ps:=[.sl (.int .i64)]) (rs:=[.sl Qu, .int .i64]) λ x y hF ok0 w vs z hz B3 ha=>by
  obtain ⟨cs,r,rfl,hr,Hb⟩:=ha;cases Hb;have CM:∃ V,cs=[V]:=by
   obtain ⟨a,n,cap,h,_⟩:=hr;exact ⟨_,h⟩
  obtain ⟨V,rfl⟩:=CM;obtain ⟨l,u⟩:=x;have hF:Wo l=some y:=hF;unfold Wo at hF;cases Ou:My l with
  | none=>rw [Ou] at hF;cases hF
  | some b=>
   rw [Ou] at hF;cases b with
   | false=>
    cases hF;refine (Yvg V l w B3 hr Ou).mono ?_;rintro e w' ⟨rfl,hb⟩;exact ⟨af (l:=[]) (World.ownsRow_nil _ _ _ _),hb⟩
   | true=>
    dsimp only [Option.bind,cond] at hF;cases hp:ME 0 l with
    | none=>rw [hp] at hF;cases hF
    | some ps=>
     rw [hp] at hF;dsimp only at hF;cases hg:(decide (l.length<=1024) && decide (ps.length<=4294967295)) with
     | false=>rw [hg] at hF;cases hF
     | true=>
      rw [hg] at hF;cases hF;rw [Bool.and_eq_true] at hg;refine (Zg5 V l ps w B3 hr Ou (Az hg.1) hp (Az hg.2)).mono ?_;rintro e w' ⟨v,rfl,ho,hb⟩;exact ⟨af ho,hb⟩
end Go.Proofs.YtclpadlpcfnfmaaGreat.Am
end
