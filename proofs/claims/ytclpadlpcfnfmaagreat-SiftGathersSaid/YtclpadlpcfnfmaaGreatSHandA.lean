import Derived.RangeFuncBox
import Derived.RangeFuncLeaves
import Derived.Shelf.Abstract
import Derived.WalkKit
import Derived.OwnWalkIn
import Derived.TacticsInMore
import Derived.LoopNIn
import Derived.LoopIn
import Derived.Maps.AppendAt
import Derived.Outline
import Derived.WalkLawsBesides
import Derived.BigRegion
import Derived.BigQuiet
import Derived.Deep.QuietTactic
import Derived.Test.YtclpadlpcfnfmaaGreatAmHand18
import Derived.Test.YtclpadlpcfnfmaaGreatSPrfA
section
namespace Go.Proofs.YtclpadlpcfnfmaaGreat.Am
open Go.AM Go.AM.Pure Go.RowKit Go.Shelf Go.Lib
set_option maxRecDepth 100000
open Go.Proofs
def Ep (l:List (Int×Int)):List Value:=l.flatMap fun s=>[.int .i64 s.1, .int .i64 s.2]
theorem Xv:(Tryz.prog.info? 67).map (fun i=>(i.zero,i.size,i.bytes))=some (some (.agg #[.int .i64 0, .int .i64 0]),2,16):=by kernel_rfl
theorem Uf {w:World} {b:Nat} {lo hi:Int} {T:TypeId} {y:Nat×Nat} (h:w.heap[b]? = some (.cells #[.int .i64 lo, .int .i64 hi] T y)):∀ (j:Nat) (u:Value),[Value.int .i64 lo,Value.int .i64 hi][j]? = some u→w.cell? ((⟨b,0,none⟩:Addr).add j)=some u:=by
 intro j u hj
 rw [Addr.add_lit,Nat.zero_add,cell_of_row w b j _ T y h,← hj]
 simp
theorem RE {lo hi:Int}:∀ (u:Value),u∈[Value.int IntKind.i64 lo,Value.int IntKind.i64 hi]→u.oneCell'=true:=by
 intro u hu
 simp at hu
 rcases hu with rfl | rfl <;> rfl
theorem below_drewN {n:Nat} {a b:World} (h:Below n a b) (k:Nat):Below n a (b.drewN k):=⟨h.os,h.tape,h.output,h.size,h.block⟩
theorem Zw8 {w:World} {n0:Nat} {T:TypeId} {sz n:Nat} {v:Value} {xs:List Value} (h:w.ownsRow n0 T sz v n xs) (o o':Obj) (k:Nat):(((w.alloc o).drewN k).alloc o').ownsRow n0 T sz v n xs:=
 World.ownsRow.alloc (w:=(w.alloc o).drewN k) (h.alloc o) o'
theorem MD {w:World} {n0 g:Nat} {T:TypeId} {sz n cap:Nat} {xs:List Value} (h:w.ownsRow n0 T sz (.slice (some ⟨g,0,none⟩) n cap) n xs) (j:Nat) (u:Value) (hj:xs[j]? = some u):w.cell? ⟨g,j,none⟩=some u∧w.frozen? ⟨g,j,none⟩=false:=by
 obtain ⟨_,⟨h,_⟩ | ⟨g',DN,cur,hv,_,hh,_,_,_,htk⟩⟩:=h
 ·cases h
 ·cases hv
  rw [← htk,List.getElem?_take] at hj
  split at hj
  ·refine ⟨?_,by simp [World.frozen?,hh]⟩
   rw [cell_of_row w g j cur T (0,0) hh]
   simpa using hj
  ·cases hj
theorem mc {w:World} {n0 g m cap:Nat} {aa b c:Value} {xs:List Value} (h:w.ownsRow n0 67 2 (.slice (some ⟨g,0,none⟩) (m+1) cap) (m+1) (xs++[aa,b])) (hxs:xs.length=m*2):
  (w.setCell ⟨g,m*2+1,none⟩ c).ownsRow n0 67 2 (.slice (some ⟨g,0,none⟩) (m+1) cap) (m+1) (xs++[aa,c]):=by
 obtain ⟨hl,⟨h,_⟩ | ⟨g',DN,cur,hv,hg,hh,h1,h2,h3,htk⟩⟩:=h
 ·cases h
 ·cases hv
  refine ⟨by simp at hl ⊢;omega, .inr ⟨g,cap,cur.setIfInBounds (m*2+1) c,rfl,hg,?_,h1,h2,by simpa using h3,?_⟩⟩
  ·simp [World.setCell,Array.getElem?_modify,hh]
  ·rw [Array.toList_setIfInBounds,List.take_set,htk,List.set_append_right _ _ (by omega),show m*2+1-xs.length=1 by omega]
   rfl
theorem Zui (a b:Int):FP a b=max a b:=by
 unfold FP
 split <;> omega
set_option maxHeartbeats 1000000 in
theorem Zvi (n0:Nat) (lo hi:Int) (w:World) (hn0:n0≤w.heap.size) (hlt:lo<hi):
  Calls Tryz.prog 116 #[.slice none 0 0, .agg #[.int .i64 lo, .int .i64 hi]] w fun e w'=>∃ v',e = .returned v'∧w'.ownsRow n0 67 2 v' 1 [.int .i64 lo, .int .i64 hi]∧Below n0 w w':=by
 obtain ⟨i0,hi0,hz0,hz1,hz2⟩:=info_parts Xv
 go_enter Tryz.func116,Tryz.ntmps116
 go_wp2
 go_quiet (fail)
 go_wp2_with (at_builtin;refine wpList_append_own _ rfl _ _ 23 rfl n0 67 i0 (.agg #[.int .i64 0, .int .i64 0]) 2 16 Tryz.underlying23 hi0 hz0 hz1 hz2 rfl (by decide) _ _ _ rfl (World.ownsRow_nil _ _ _ _) ⟨w.heap.size+1,0,none⟩ 1 1 [.int .i64 lo, .int .i64 hi] rfl ?c1 ?c2 RE ?c4 ?c5 ?c6 ?_)
 case c1=>rfl
 case c2=>exact Uf (T:=67) (y:=(0,0)) (by have:=heap_alloc_new ((w.alloc (Obj.cells #[Value.int IntKind.i64 lo,Value.int IntKind.i64 hi] 67)).drewN nq) (Obj.cells #[Value.int IntKind.i64 lo,Value.int IntKind.i64 hi] 67);simpa using this)
 case c4=>decide
 case c5=>decide
 case c6=>simp;omega
 intro v' w1 hown hgrow hnil
 go_wp2
 go_ret
 exact ⟨v',rfl,hown,((below_drewN ((Below.refl n0 w).alloc hn0 _) nq).alloc (by simp;omega) _).grown hgrow (by simp;omega) (by intro k hk;simp [Value.ownBlock] at hk)⟩
set_option maxHeartbeats 1000000 in
theorem wP (n0 g m cap:Nat) (aa b lo hi:Int) (xs:List Value) (w:World) (hn0:n0≤w.heap.size) (hlt:lo<hi) (hgap:b<lo) (hm:m<4294967296)
  (hown:w.ownsRow n0 67 2 (.slice (some ⟨g,0,none⟩) (m+1) cap) (m+1) (xs++[.int .i64 aa, .int .i64 b])) (hxs:xs.length=m*2):
  Calls Tryz.prog 116 #[.slice (some ⟨g,0,none⟩) (m+1) cap, .agg #[.int .i64 lo, .int .i64 hi]] w fun e w'=>∃ v',e = .returned v'∧w'.ownsRow n0 67 2 v' (m+2) (xs++[.int .i64 aa, .int .i64 b]++[.int .i64 lo, .int .i64 hi])∧Below n0 w w':=by
 obtain ⟨i0,hi0,hz0,hz1,hz2⟩:=info_parts Xv
 have hg:g<w.heap.size:=by
  rcases hown.2 with ⟨h,_⟩ | ⟨g',_,_,h,_,hh,_⟩
  ·cases h
  ·cases h;exact (Array.getElem?_eq_some_iff.1 hh).1
 have hcell:=(MD hown (m*2+1) (.int .i64 b) (by rw [List.getElem?_append_right (by omega),show m*2+1-xs.length=1 by omega];rfl)).1
 obtain ⟨hcap,hcm⟩:m+1≤cap∧cap≤9223372036854775807:=by
  rcases hown.2 with ⟨h,_⟩ | ⟨g',_,_,h,_,_,h5,h6,_⟩
  ·cases h
  ·cases h;exact ⟨h5,h6⟩
 have h1:(0:Int)≤(m:Int):=by omega
 have h2:(m:Int)<(m:Int)+1:=by omega
 have h3:m+1≤4294967296:=by omega
 have hg0:n0≤g:=by
  rcases hown.2 with ⟨h,_⟩ | ⟨g',_,_,h,hb,_⟩
  ·cases h
  ·cases h;exact hb
 have hc1:(w.alloc (.cells #[.int .i64 lo, .int .i64 hi] 67)).cell? ⟨g,m*2+1,none⟩=some (.int .i64 b):=(World.cell?_alloc_lt w _ ⟨g,m*2+1,none⟩ hg).trans hcell
 have HO:=Lib.hid hown
 clear hown hm hcell
 go_enter Tryz.func116,Tryz.ntmps116
 go_wp2
 go_quiet (fail)
 go_wp2_with (at_builtin;refine wpList_append_own _ rfl _ _ 23 rfl n0 67 i0 (.agg #[.int .i64 0, .int .i64 0]) 2 16 Tryz.underlying23 hi0 hz0 hz1 hz2 rfl (by decide) _ _ _ rfl (Zw8 HO.out _ _ _) ⟨w.heap.size+1,0,none⟩ 1 1 [.int .i64 lo, .int .i64 hi] rfl ?c1 ?c2 RE ?c4 ?c5 ?c6 ?_)
 case c1=>rfl
 case c2=>exact Uf (T:=67) (y:=(0,0)) (by have:=heap_alloc_new ((w.alloc (Obj.cells #[Value.int IntKind.i64 lo,Value.int IntKind.i64 hi] 67)).drewN nq) (Obj.cells #[Value.int IntKind.i64 lo,Value.int IntKind.i64 hi] 67);simpa using this)
 case c4=>unfold maxLen;omega
 case c5=>omega
 case c6=>simp;omega
 intro v' w1 hown1 hgrow hnil
 go_wp2
 go_ret
 refine ⟨v',rfl,by simpa using hown1,((below_drewN ((Below.refl n0 w).alloc hn0 _) nq).alloc (by simp;omega) _).grown hgrow (by simp;omega) (by intro k hk;simp [Value.ownBlock] at hk;omega)⟩
set_option maxHeartbeats 1000000 in
theorem wQ (n0 g m cap:Nat) (aa b lo hi:Int) (xs:List Value) (w:World) (hn0:n0≤w.heap.size) (hlt:lo<hi) (hgap:lo≤b) (hm:m<4294967296)
  (hown:w.ownsRow n0 67 2 (.slice (some ⟨g,0,none⟩) (m+1) cap) (m+1) (xs++[.int .i64 aa, .int .i64 b])) (hxs:xs.length=m*2):
  Calls Tryz.prog 116 #[.slice (some ⟨g,0,none⟩) (m+1) cap, .agg #[.int .i64 lo, .int .i64 hi]] w fun e w'=>∃ v',e = .returned v'∧w'.ownsRow n0 67 2 v' (m+1) (xs++[.int .i64 aa, .int .i64 (FP b hi)])∧Below n0 w w':=by
 have hg:g<w.heap.size:=by
  rcases hown.2 with ⟨h,_⟩ | ⟨g',_,_,h,_,hh,_⟩
  ·cases h
  ·cases h;exact (Array.getElem?_eq_some_iff.1 hh).1
 have hcell:=(MD hown (m*2+1) (.int .i64 b) (by rw [List.getElem?_append_right (by omega),show m*2+1-xs.length=1 by omega];rfl)).1
 obtain ⟨hcap,hcm⟩:m+1≤cap∧cap≤9223372036854775807:=by
  rcases hown.2 with ⟨h,_⟩ | ⟨g',_,_,h,_,_,h5,h6,_⟩
  ·cases h
  ·cases h;exact ⟨h5,h6⟩
 have h1:(0:Int)≤(m:Int):=by omega
 have h2:(m:Int)<(m:Int)+1:=by omega
 have h3:m+1≤4294967296:=by omega
 have hg0:n0≤g:=by
  rcases hown.2 with ⟨h,_⟩ | ⟨g',_,_,h,hb,_⟩
  ·cases h
  ·cases h;exact hb
 have hc1:(w.alloc (.cells #[.int .i64 lo, .int .i64 hi] 67)).cell? ⟨g,m*2+1,none⟩=some (.int .i64 b):=(World.cell?_alloc_lt w _ ⟨g,m*2+1,none⟩ hg).trans hcell
 have hf1:(w.alloc (.cells #[.int .i64 lo, .int .i64 hi] 67)).frozen? ⟨g,m*2+1,none⟩=false:=(MD (hown.alloc _) (m*2+1) _ (by rw [List.getElem?_append_right (by omega),show m*2+1-xs.length=1 by omega];rfl)).2
 have HO:=Lib.hid hown
 clear hown hm hcell
 go_enter Tryz.func116,Tryz.ntmps116
 go_wp2
 go_quiet (fail)
 go_wp2
 go_region
 go_wp2
 go_ret
 exact ⟨_,rfl,by rw [Zui];exact mc (w:=(w.alloc (.cells #[.int .i64 lo, .int .i64 hi] 67)).drewN (nq+1)) (HO.out.alloc _) hxs,(below_drewN ((Below.refl n0 w).alloc hn0 _) (nq+1)).setCell (p:=⟨g,m*2+1,none⟩) hg0 _⟩
theorem bq (s:Int×Int):MH [] s=[s]:=rfl
theorem Tg (l:List (Int×Int)) (k s:Int×Int):MH (l++[k]) s=if s.1≤k.2 then l++[(k.1,FP k.2 s.2)] else l++[k]++[s]:=by
 unfold MH
 rw [show (l++[k]).getLast? = some k by simp]
 dsimp only
 by_cases h:s.1≤k.2
 ·rw [if_pos h]
  simp [leI,h]
 ·rw [if_neg h]
  simp [leI,h]
theorem Gc (l:List (Int×Int)) (k:Int×Int):Ep (l++[k])=Ep l++[.int .i64 k.1, .int .i64 k.2]:=by simp [Ep]
theorem Jh (l:List (Int×Int)):(Ep l).length=l.length*2:=by
 induction l with
 | nil=>rfl
 | cons a l ih=>simp [Ep] at ih ⊢;omega
def gG (n0:Nat) (l:List (Int×Int)) (lo hi:Int) (w:World) (e:Ending) (w':World):Prop:=
 ∃ v',e = .returned v'∧w'.ownsRow n0 67 2 v' (MH l (lo,hi)).length (Ep (MH l (lo,hi)))∧Below n0 w w'
theorem Zwi (n0:Nat) (v:Value) (l:List (Int×Int)) (lo hi:Int) (w:World) (hn0:n0≤w.heap.size) (hlt:lo<hi) (hm:l.length≤4294967295)
  (hown:w.ownsRow n0 67 2 v l.length (Ep l)) (hnil:l=[]→v = .slice none 0 0):Calls Tryz.prog 116 #[v, .agg #[.int .i64 lo, .int .i64 hi]] w (gG n0 l lo hi w):=by
 rcases List.eq_nil_or_concat l with rfl | ⟨pre,k,rfl⟩
 ·rw [hnil rfl]
  exact Zvi n0 lo hi w hn0 hlt
 ·rw [List.concat_eq_append] at *
  rw [List.length_append,Gc] at hown
  rw [List.length_append] at hm
  simp only [List.length_singleton] at hown hm
  have hv:∃ g cap,v = .slice (some ⟨g,0,none⟩) (pre.length+1) cap:=by
   rcases hown.2 with ⟨_,h⟩ | ⟨g,cap,_,h,_⟩
   ·omega
   ·exact ⟨g,cap,h⟩
  obtain ⟨g,cap,rfl⟩:=hv
  unfold gG
  rw [Tg]
  dsimp only
  by_cases h:lo≤k.2
  ·rw [if_pos h,Gc,List.length_append]
   exact wQ n0 g pre.length cap k.1 k.2 lo hi (Ep pre) w hn0 hlt h (by omega) hown (Jh pre)
  ·rw [if_neg h,Gc,Gc,List.length_append,List.length_append]
   exact wP n0 g pre.length cap k.1 k.2 lo hi (Ep pre) w hn0 hlt (by omega) (by omega) hown (Jh pre)
end Go.Proofs.YtclpadlpcfnfmaaGreat.Am
end

section
namespace Go.Proofs.YtclpadlpcfnfmaaGreat.Am
open Go.AM Go.AM.Pure Go.RowKit Go.Shelf Go.Lib
open Go.Sort (Holds putRow)
set_option maxRecDepth 100000
open Go.Proofs
set_option maxHeartbeats 1000000 in
theorem Zq1 (w:World):Calls Tryz.prog 206 #[.slice none 0 0, .int .i64 0, .int .i64 0] w fun e w'=>e = .returned (.tuple #[])∧w'=w:=by
 go_enter Tryz.func206,Tryz.ntmps206
 go_wp2
 refine wp_loop_rounds 1 ?_
 rw [rounds_succ]
 go_wp2
 go_end0
 exact ⟨rfl,rfl⟩
set_option maxHeartbeats 1000000 in
theorem Zr1 (u:Value) (w:World):Calls Tryz.prog 170 #[.slice none 0 0, .int .i64 0, .int .i64 0,u] w fun e w'=>e = .returned (.tuple #[])∧w'=w:=by
 go_enter Tryz.func170,Tryz.ntmps170
 go_wp2
 refine wp_loop_rounds 1 ?_
 rw [rounds_succ]
 go_wp2_with (go_at_call 206;refine (Zq1 _).mono ?_;rintro e w' ⟨rfl,rfl⟩)
 refine bodyPost_ret (results_none rfl _ _ _) rfl ⟨rfl,rfl⟩
set_option maxHeartbeats 1000000 in
theorem Zri (w:World):Calls Tryz.prog 115 #[.slice none 0 0] w fun e w'=>e = .returned (.tuple #[])∧w'=w:=by
 go_enter Tryz.func115,Tryz.ntmps115
 go_wp2_with (first | (go_at_call 170;refine (Zr1 _ _).mono ?_;rintro e w' ⟨rfl,rfl⟩) | go_in)
 go_end0
 exact ⟨rfl,rfl⟩
def FJ (l:List Int):List Value:=l.map (Value.int .i64)
theorem se {n0 g:Nat} {w w':World} (h:BelowX ⟨w.heap.size,[g],[]⟩ w w') (hg:n0≤g) (hn:n0≤w.heap.size):Below n0 w w':=
 ⟨h.os,h.tape,h.output,h.size,fun k hk=>h.block k (Nat.lt_of_lt_of_le hk hn) (by simp;omega) (by simp)⟩
theorem Zsi {w:World} {n0:Nat} {l:List Int} {g cap:Nat} {cur:Array Value} (hg:n0≤g) (hh:w.heap[g]? = some (.cells cur 3 (0,0))) (h1:l.length≤cap) (h2:cap≤maxLen) (h3:cur.size=cap)
  (hc:∀ (i:Nat) (x:Int),l[i]? = some x→cur[i]? = some (Value.int .i64 x)):w.ownsRow n0 3 1 (.slice (some ⟨g,0,none⟩) l.length cap) l.length (FJ l):=by
 refine ⟨by simp [FJ], .inr ⟨g,cap,cur,rfl,hg,hh,h1,h2,by omega,?_⟩⟩
 apply List.ext_getElem?
 intro i
 rw [List.getElem?_take,Nat.mul_one]
 unfold FJ
 rw [List.getElem?_map]
 split
 ·rename_i hi
  rw [List.getElem?_eq_getElem hi,Option.map_some]
  have:=hc i l[i] (List.getElem?_eq_getElem hi)
  simpa using this
 ·rename_i hi
  rw [List.getElem?_eq_none (by omega)]
  rfl
theorem Zti (n0:Nat) (v:Value) (l:List Int) (w:World) (hn:n0≤w.heap.size) (hl:l.length<4611686018427387904) (ho:w.ownsRow n0 3 1 v l.length (FJ l)):
  Calls Tryz.prog 115 #[v] w fun e w'=>e = .returned (.tuple #[])∧w'.ownsRow n0 3 1 v (l.mergeSort fun x y=>decide (x≤y)).length (FJ (l.mergeSort fun x y=>decide (x≤y)))∧Below n0 w w':=by
 obtain ⟨hlen,⟨rfl,h0⟩ | ⟨g,cap,cur,rfl,hg,hh,h1,h2,h3,htk⟩⟩:=ho
 ·have:l=[]:=List.eq_nil_of_length_eq_zero h0
  subst this
  refine (Zri w).mono ?_
  rintro e w' ⟨rfl,rfl⟩
  exact ⟨rfl,by simp [FJ];exact World.ownsRow_nil _ _ _ _,Below.refl _ _⟩
 ·have hci:∀ (i:Nat) (x:Int),l[i]? = some x→cur[i]? = some (Value.int .i64 x):=fun i x hi=>by
   have h5:(FJ l)[i]? = some (Value.int .i64 x):=by unfold FJ;rw [List.getElem?_map,hi];rfl
   rw [← htk,List.getElem?_take] at h5
   split at h5
   ·simpa using h5
   ·cases h5
  have hH:Holds (Value.int .i64) w g 0 l.toArray:=by
   have:=holds_of (e:= .int .i64) (ok:=fun _ _=>False) (enc:=Value.int .i64) (fr:=fun x=>x) rfl (fun _=>rfl) hh (wm (e:= .int .i64) rfl (l:=l) (fun i x hi=>hci i x hi))
   rw [List.map_id'] at this
   exact this
  refine (Any.slices_Sort_int lU g 0 cap l w hH (Array.getElem?_eq_some_iff.1 hh).1 hl).mono ?_
  rintro e w' ⟨rfl,k,os,hw⟩
  have hms:(l.mergeSort fun x y=>decide (x≤y)).length=l.length:=List.length_mergeSort _
  obtain ⟨hB,cur',h4,h5,h6⟩:=gB (e:= .int .i64) (to:=fun x=>x) (d:=l.mergeSort fun x y=>decide (x≤y)) rfl (fun _=>rfl) hh (by omega) hw
  refine ⟨rfl,?_,se hB hg hn⟩
  rw [List.map_id'] at h6
  have:=Zsi (w:=w') (l:=l.mergeSort fun x y=>decide (x≤y)) hg h4 (by omega) h2 (by omega) fun i x hi=>wk (e:= .int .i64) (ok:=fun _ _=>False) rfl (h6 _) hi
  rw [hms] at this ⊢
  exact this
theorem sh {ok0:Nat→Nat→Prop} (V:Value) (l:List Int) (w:World) (hr:RepD ok0 w (.sl (.int .i64)) l [V]) (hl:l.length≤4294967296):
  Calls Tryz.prog 114 #[V] w fun e w'=>∃ v,e = .returned v∧w'.ownsRow w.heap.size 3 1 v l.length (FJ l)∧Below w.heap.size w w':=by
 obtain ⟨a,n,cap,hv,hln,hn,hmx,hc⟩:=hr
 cases hv
 cases a with
 | none=>
  refine (AnyE.slices_Clone_nil gz n cap w).mono ?_
  rintro e1 w' ⟨rfl,rfl⟩
  have h0:l=[]:=by
   cases l with
   | nil=>rfl
   | cons u us=>
    obtain ⟨A,hA,_⟩:=hc 0 u rfl
    cases hA
  subst h0
  exact ⟨_,rfl,World.ownsRow_nil _ _ _ _,Below.refl _ _⟩
 | some A=>
  have hcc:∀ (j:Nat) (u:Value),(FJ l)[j]? = some u→w.cell? (A.add j)=some u:=by
   intro j u hj
   unfold FJ at hj
   rw [List.getElem?_map] at hj
   cases hq:l[j]? with
   | none=>rw [hq] at hj;cases hj
   | some x=>
    rw [hq] at hj
    cases hj
    obtain ⟨A',hA',hs,ys,hy,hyc⟩:=hc j x hq
    cases hA'
    simp only [RepD] at hy
    subst hy
    rw [Fv A hs]
    have:=(hyc 0 _ rfl).2
    simpa [Ty.sz] using this
  have hroom:n*8≤140737488355328:=by
   have:l.length=n:=hln
   omega
  have hln':l.length=n:=hln
  refine (gC gz Tryz.t3 _ 1 8 (by kernel_rfl) rfl rfl rfl (by kernel_rfl) (by decide) Tryz.sizeOf3 A n cap (FJ l) w (by simp [FJ,hln']) (by omega) hroom hcc ?_).mono ?_
  ·intro u hu
   unfold FJ at hu
   obtain ⟨x,_,rfl⟩:=List.mem_map.1 hu
   rfl
  ·rintro e1 w' ⟨v',rfl,hown,_,hbel⟩
   exact ⟨v',rfl,by rw [hln'];exact hown,hbel⟩
theorem GR {ok0:Nat→Nat→Prop} {w w':World} {t:Ty} {x:t.D} {cs:List Value} (h:RepD ok0 w t x cs) (hok:∀ b o,ok0 b o→b<w.heap.size) (hb:Below w.heap.size w w'):RepD ok0 w' t x cs:=
 h.mono fun b o hk=>⟨hk,hb.cell (p:=⟨b,o,none⟩) (hok b o hk)⟩
theorem wO {ok0:Nat→Nat→Prop} (V:Value) (l:List Int) (b:Bool) (w:World) {z:Nat} (hz:Lay.ok z w) (hok:∀ b o,ok0 b o→b<w.heap.size) (hr:RepD ok0 w (.sl (.int .i64)) l [V]) (hF:CZ l=some b):
  Calls Tryz.prog 112 #[V, .func (.func 113) #[] #[]] w fun e w'=>e = .returned (.bool b)∧Below w.heap.size w w':=by
 have h:=Ja [.dat (.sl (.int .i64)) l [], .fn 113 []] _ b rfl hF ok0 w [V, .func (.func 113) #[] #[]] [] [] ⟨z,hz,by simp,by simp⟩ (fun b o hb=>⟨hok b o hb,by simp,by simp⟩) List.nodup_nil (by simp) ⟨fun i j b u u' h=>by simp at h,fun b u h=>by simp at h⟩
  ⟨[],[],⟨⟨[V],hr,rfl⟩,rfl,rfl⟩,[],[],⟨⟨[],rfl,trivial⟩,rfl,rfl⟩,rfl,rfl⟩
 refine h.mono ?_
 rintro e w' ⟨v,rfl,hb,ρ,hρ,_,_,hr⟩
 obtain ⟨us,⟨cs,h1,h2⟩,rfl⟩:=ma (rs:=[(.bool,[])]) (y:=b) hr
 simp only [RepD] at h2
 subst h2
 subst h1
 exact ⟨rfl,hb.below⟩
end Go.Proofs.YtclpadlpcfnfmaaGreat.Am
end

section
namespace Go.Proofs.YtclpadlpcfnfmaaGreat.Am
open Go.AM Go.AM.Pure Go.RowKit Go.Shelf Go.Lib
set_option maxRecDepth 100000
open Go.Proofs
def Mm (l:List Int) (k:Nat):List (Int×Int):=(l.take k).foldl (fun a n=>MH a (n,n+1)) []
theorem Tf (l:List Int) {k:Nat} (h:k<l.length):Mm l (k+1)=MH (Mm l k) (l[k],l[k]+1):=by
 unfold Mm
 rw [List.take_succ_eq_append_getElem h,List.foldl_append]
 rfl
theorem Zpi (l:List (Int×Int)) (s:Int×Int):MH l s≠[]:=by
 rcases List.eq_nil_or_concat l with rfl | ⟨p,k,rfl⟩
 ·rw [bq];simp
 ·rw [List.concat_eq_append,Tg]
  split <;> simp
theorem wM (l:List (Int×Int)) (s:Int×Int):(MH l s).length≤l.length+1:=by
 rcases List.eq_nil_or_concat l with rfl | ⟨p,k,rfl⟩
 ·rw [bq];simp
 ·rw [List.concat_eq_append,Tg]
  split <;> simp
theorem Zqi (l:List Int) (k:Nat):(Mm l k).length≤k:=by
 induction k with
 | zero=>simp [Mm]
 | succ k ih=>
  by_cases h:k<l.length
  ·rw [Tf l h]
   have:=wM (Mm l k) (l[k],l[k]+1)
   omega
  ·unfold Mm at ih ⊢
   rw [List.take_of_length_le (by omega)] at ih ⊢
   omega
def Zmf1 (n1:Nat) (w1:World) (l:List Int) (v i:Value) (wr:World):Prop:=
 ∃ k:Nat,k≤l.length∧i = .int .i64 k∧wr.ownsRow n1 67 2 v (Mm l k).length (Ep (Mm l k))∧(Mm l k=[]→v = .slice none 0 0)∧Below n1 w1 wr
def Zu8 (n0:Nat) (w:World) (l:List Int) (e:Ending) (w':World):Prop:=
 ∃ v,e = .returned (.tuple #[v, .int .i64 0])∧w'.ownsRow n0 67 2 v (Mm l l.length).length (Ep (Mm l l.length))∧Below n0 w w'
theorem wN {w:World} {n0 n1:Nat} {T:TypeId} {sz n:Nat} {v:Value} {xs:List Value} (h:w.ownsRow n1 T sz v n xs) (hn:n0≤n1):w.ownsRow n0 T sz v n xs:=by
 obtain ⟨hl,h | ⟨g,cap,cur,hv,hg,r⟩⟩:=h
 ·exact ⟨hl, .inl h⟩
 ·exact ⟨hl, .inr ⟨g,cap,cur,hv,by omega,r⟩⟩
set_option maxHeartbeats 2000000 in
theorem Znf1 {ok0:Nat→Nat→Prop} (V:Value) (l S:List Int) (w:World) {z:Nat} (hz:Lay.ok z w) (hok:∀ b o,ok0 b o→b<w.heap.size) (hr:RepD ok0 w (.sl (.int .i64)) l [V]) (hF:CZ l=some false)
  (hl:l.length≤4294967296) (hS:(l.mergeSort fun x y=>decide (x≤y))=S) (hall:∀ x∈S,0≤x∧x<65536):Calls Tryz.prog 63 #[V] w (Zu8 w.heap.size w S):=by
 have hSl:S.length≤4294967296:=by rw [← hS,List.length_mergeSort];exact hl
 have HS:=Lib.hid hS
 clear hS
 have HA:=Lib.hid hall
 clear hall
 go_enter Tryz.func63,Tryz.ntmps63
 go_wp2_with fail
 refine (wO V l false w hz hok hr hF).mono ?_
 rintro e w1 ⟨rfl,hb1⟩
 have hr1:=GR hr hok hb1
 go_wp2_with fail
 refine (sh V l w1 hr1 hl).mono ?_
 rintro e w2 ⟨v2,rfl,ho2,hb2⟩
 go_wp2_with fail
 refine (Zti w1.heap.size v2 l w2 hb2.size (by omega) ho2).mono ?_
 rintro e w3 ⟨rfl,ho3,hb3⟩
 rw [HS.out] at ho3
 have hb13:Below w.heap.size w w3:=hb1.trans ((hb2.mono hb1.size).trans (hb3.mono hb1.size))
 have H13:=Lib.hid hb13
 clear hF hr hr1 ho2 hb1 hb2 hb3 hb13 hz hok
 obtain ⟨_,⟨rfl,h0⟩ | ⟨g,cap,cur,rfl,hg,hh,h1,h2,h3,htk⟩⟩:=id ho3
 ·have hS0:S=[]:=List.eq_nil_of_length_eq_zero h0
  subst hS0
  clear ho3
  go_wp2
  refine wp_loop_rounds 1 ?_
  rw [rounds_succ]
  go_wp2
  go_ret2
  exact ⟨_,rfl,World.ownsRow_nil _ _ _ _,H13.out⟩
 ·have HO:=Lib.hid ho3
  have hg3:g<w3.heap.size:=(Array.getElem?_eq_some_iff.1 hh).1
  unfold maxLen at h2
  clear hh htk h3 ho3
  go_wp2
  go_loopw [5,16] (fun v i wr=>Zmf1 w3.heap.size w3 S v i wr) (fun _ i _=>S.length-(intOf i).toNat)
  case atStart=>exact ⟨0,Nat.zero_le _,rfl,World.ownsRow_nil _ _ _ _,fun _=>rfl,Below.refl _ _⟩
  case round=>
   obtain ⟨k,hk,rfl,hown,hnil,hbel⟩:=hrel
   have HW:=Lib.hid hown
   have HN:=Lib.hid hnil
   have HB:=Lib.hid hbel
   clear hown hnil hbel
   by_cases hlt:k<S.length
   ·obtain ⟨x,hx⟩:∃ x,S[k]=x:=⟨_,rfl⟩
    have hx0:0≤x∧x<65536:=HA.out x (by rw [← hx];exact List.getElem_mem _)
    obtain ⟨hx1,hx2⟩:=hx0
    have hcell:wr.cell? ⟨g,k,none⟩=some (.int .i64 x):=(HB.out.cell (p:=⟨g,k,none⟩) hg3).trans (MD HO.out k _ (by unfold FJ;rw [List.getElem?_map,List.getElem?_eq_getElem hlt,hx];rfl)).1
    have HX:=Lib.hid hx
    clear hx
    have hal:=Zqi S k
    go_wp2_with (go_at_call 116;refine (Zwi w3.heap.size _ (Mm S k) x (x+1) _ HB.out.size (by omega) (by omega) HW.out HN.out).mono ?_;rintro e w4 ⟨v4,rfl,ho4,hb4⟩;have HV:=Lib.hid ho4;clear ho4)
    go_roundw
    case rel=>exact ⟨k+1,by omega,by go_num,by rw [Tf S hlt,HX.out];exact HV.out,fun h=>by rw [Tf S hlt] at h;exact absurd h (Zpi _ _),HB.out.trans hb4⟩
    case measure=>simp [intOf];omega
   ·obtain rfl:k=S.length:=by omega
    go_wp2
    go_ret2
    exact ⟨_,rfl,wN HW.out H13.out.size,H13.out.trans (HB.out.mono H13.out.size)⟩
set_option maxHeartbeats 1000000 in
theorem Zv8 {ok0:Nat→Nat→Prop} (V:Value) (l:List Int) (w:World) {z:Nat} (hz:Lay.ok z w) (hok:∀ b o,ok0 b o→b<w.heap.size) (hr:RepD ok0 w (.sl (.int .i64)) l [V]) (hF:CZ l=some true):
  Calls Tryz.prog 63 #[V] w fun e w'=>e = .returned (.tuple #[.slice none 0 0, .int .i64 1])∧Below w.heap.size w w':=by
 go_enter Tryz.func63,Tryz.ntmps63
 go_wp2_with fail
 refine (wO V l true w hz hok hr hF).mono ?_
 rintro e w1 ⟨rfl,hb1⟩
 clear hr hok hz hF
 go_wp2
 go_ret2
 exact ⟨rfl,hb1⟩
abbrev Oh:Ty:= .pair (.int .i64) (.int .i64)
theorem sd {ok:Nat→Nat→Prop} {w:World} (l:List (Int×Int)):FV ok w Oh l (Ep l):=by
 refine ⟨Jh l,fun i x hi=>⟨[.int .i64 x.1, .int .i64 x.2],⟨[.int .i64 x.1],[.int .i64 x.2],rfl,rfl,rfl⟩,fun j u hj=>?_⟩⟩
 induction l generalizing i with
 | nil=>cases hi
 | cons a l ih=>
  cases i with
  | zero=>
   cases hi
   show (Ep (x :: l))[0*2+j]? = some u
   rw [Nat.zero_mul,Nat.zero_add]
   match j,hj with
   | 0,hj=>exact hj
   | 1,hj=>exact hj
   | j+2,hj=>cases hj
  | succ i=>
   have:=ih i hi
   show (Ep (a :: l))[(i+1)*2+j]? = some u
   rw [show (i+1)*2+j=(i*2+j)+1+1 by omega]
   exact this
theorem PF {ok0:Nat→Nat→Prop} {w w':World} {v:Value} {l:List (Int×Int)} {n:Int} (ho:w'.ownsRow w.heap.size 67 2 v l.length (Ep l)):
  ∃ us,MW (okN ok0 w w') w' (FX [.sl Oh, .int .i64]) (l,n) us∧Ending.returned (.tuple #[v, .int .i64 n]) = .returned (SZ us):=
 ⟨[v, .int .i64 n],⟨[v],[.int .i64 n],rfl,Zi (e:=Oh) ho (sd l) fun b o h1 h2=> .inr ⟨h1,h2⟩,[.int .i64 n],rfl,rfl⟩,rfl⟩
@[reducible] def RD : AM.Spec := AM.spec [.val (.sl (.int .i64))] [(.sl (.pair (.int .i64) (.int .i64)), []), (.int .i64, [])] (fun x => RZ x.1)
theorem bp:Ah Tryz.prog 63 RD:=
 Ud (ps:=[.sl (.int .i64)]) (rs:=[.sl Oh, .int .i64]) fun x y hF ok0 w vs z hz hok ha=>by
  obtain ⟨cs,r,rfl,hr,hr0⟩:=ha
  cases hr0
  have hcs:∃ V,cs=[V]:=by
   obtain ⟨a,n,cap,h,_⟩:=hr
   exact ⟨_,h⟩
  obtain ⟨V,rfl⟩:=hcs
  obtain ⟨l,u⟩:=x
  have hF:RZ l=some y:=hF
  unfold RZ at hF
  cases hcf:CZ l with
  | none=>rw [hcf] at hF;cases hF
  | some b=>
   rw [hcf] at hF
   cases b with
   | true=>
    cases hF
    refine (Zv8 V l w hz hok hr hcf).mono ?_
    rintro e w' ⟨rfl,hb⟩
    exact ⟨PF (l:=[]) (World.ownsRow_nil _ _ _ _),hb⟩
   | false=>
    dsimp only [Option.bind,cond] at hF
    cases hg:(decide (l.length≤4294967296) && l.all (fun n=>leI 0 n && ltI n 65536)) with
    | false=>rw [hg] at hF;cases hF
    | true=>
     rw [hg] at hF
     cases hF
     rw [Bool.and_eq_true,List.all_eq_true] at hg
     have hS:(l.mergeSort fun x y=>decide (x≤y)).length=l.length:=List.length_mergeSort _
     refine (Znf1 V l _ w hz hok hr hcf (of_decide_eq_true hg.1) rfl fun x hx=>?_).mono ?_
     ·have:=hg.2 x (List.mem_mergeSort.1 hx)
      rw [Bool.and_eq_true] at this
      exact ⟨of_decide_eq_true this.1,of_decide_eq_true this.2⟩
     ·rintro e w' ⟨v,rfl,ho,hb⟩
      unfold Mm at ho
      rw [List.take_length] at ho
      exact ⟨PF ho,hb⟩
end Go.Proofs.YtclpadlpcfnfmaaGreat.Am
end

section
namespace Go.Proofs.YtclpadlpcfnfmaaGreat.Am
open Go.AM Go.AM.Pure Go.RowKit Go.Shelf Go.Lib
set_option maxRecDepth 100000
open Go.Proofs
def NN (N B:Nat) (l:List (Int×Int)) (W:World):Prop:=∃ v,Boxed W B 23 v∧W.ownsRow N 67 2 v l.length (Ep l)∧(l=[]→v = .slice none 0 0)
def Wa (N B:Nat) (l:List (Int×Int)) (W:World) (e:Ending) (W':World):Prop:=e = .returned (.bool true)∧NN N B l W'∧Below N W W'
set_option maxHeartbeats 1000000 in
theorem Zmi (N B:Nat) (at_:Int) (W:World) (hN:N≤W.heap.size) (hB:N≤B) (h0:0≤at_) (h1:at_≤65600) (hv:Boxed W B 23 (.slice none 0 0)):
  Calls Tryz.prog 111 #[.int .i64 at_, .pointer (some ⟨B,0,none⟩)] W (Wa N B [(at_,at_+1)] W):=by
 obtain ⟨i0,hi0,hz0,hz1,hz2⟩:=info_parts Xv
 have hc:=hv.cell
 have HR:=Lib.hid (World.ownsRow_nil W N 67 2)
 go_enter Tryz.func111,Tryz.ntmps111
 go_wp2_with (at_builtin;refine wpList_append_own _ rfl _ _ 23 rfl N 67 i0 (.agg #[.int .i64 0, .int .i64 0]) 2 16 Tryz.underlying23 hi0 hz0 hz1 hz2 rfl (by decide) _ _ _ rfl (HR.out.alloc _) ⟨W.heap.size,0,none⟩ 1 1 [.int .i64 at_, .int .i64 (at_+1)] rfl rfl (by exact Uf (T:=67) (y:=(0,0)) (heap_alloc_new W _)) RE (by unfold maxLen;omega) (by omega) (by simp;omega) ?_;intro v' w1 hown' hgrow _;obtain ⟨g',DN,rfl⟩:=ownsRow_succ hown';obtain ⟨hv1,hv2,hr2,hk2,hb2⟩:=hv.appended (by decide) HR.out hN hB hown' hgrow;have hc1:=hv1.cell;have hf1:=hv1.frozen;have H2:=Lib.hid (And.intro hv2 (And.intro hr2 hb2));clear hv2 hr2 hk2 hb2 hown' hgrow)
 go_ret
 exact ⟨rfl,⟨_,H2.out.1,H2.out.2.1,by simp⟩,H2.out.2.2⟩
set_option maxHeartbeats 1000000 in
theorem wK (N B g m cap:Nat) (aa b at_:Int) (xs:List Value) (W:World) (hN:N≤W.heap.size) (hB:N≤B) (h0:0≤at_) (h1:at_≤65600) (hm:m<4294967295) (hne:¬ b=at_)
  (hv:Boxed W B 23 (.slice (some ⟨g,0,none⟩) (m+1) cap)) (hrow:W.ownsRow N 67 2 (.slice (some ⟨g,0,none⟩) (m+1) cap) (m+1) (xs++[.int .i64 aa, .int .i64 b])) (hxs:xs.length=m*2):
  Calls Tryz.prog 111 #[.int .i64 at_, .pointer (some ⟨B,0,none⟩)] W fun e W'=>e = .returned (.bool true)∧(∃ v,Boxed W' B 23 v∧W'.ownsRow N 67 2 v (m+1+1) (xs++[.int .i64 aa, .int .i64 b]++[.int .i64 at_, .int .i64 (at_+1)]))∧Below N W W':=by
 obtain ⟨i0,hi0,hz0,hz1,hz2⟩:=info_parts Xv
 have hcell:=(MD hrow (m*2+1) (.int .i64 b) (by rw [List.getElem?_append_right (by omega),show m*2+1-xs.length=1 by omega];rfl)).1
 obtain ⟨hcap,hcm⟩:m+1≤cap∧cap≤9223372036854775807:=by
  rcases hrow.2 with ⟨h,_⟩ | ⟨g',_,_,h,_,_,h5,h6,_⟩
  ·cases h
  ·cases h;exact ⟨h5,h6⟩
 have h2:(0:Int)≤(m:Int):=by omega
 have h3:(m:Int)<(m:Int)+1:=by omega
 have h4:m+1≤4294967296:=by omega
 have hc:=hv.cell
 have HR:=Lib.hid hrow
 clear hrow hm
 go_enter Tryz.func111,Tryz.ntmps111
 go_wp2_with (at_builtin;refine wpList_append_own _ rfl _ _ 23 rfl N 67 i0 (.agg #[.int .i64 0, .int .i64 0]) 2 16 Tryz.underlying23 hi0 hz0 hz1 hz2 rfl (by decide) _ _ _ rfl (HR.out.alloc _) ⟨W.heap.size,0,none⟩ 1 1 [.int .i64 at_, .int .i64 (at_+1)] rfl rfl (by exact Uf (T:=67) (y:=(0,0)) (heap_alloc_new W _)) RE (by unfold maxLen;omega) (by omega) (by simp;omega) ?_;intro v' w1 hown' hgrow _;obtain ⟨g',DN,rfl⟩:=ownsRow_succ hown';obtain ⟨hv1,hv2,hr2,hk2,hb2⟩:=hv.appended (by decide) HR.out hN hB hown' hgrow;have hc1:=hv1.cell;have hf1:=hv1.frozen;have H2:=Lib.hid (And.intro hv2 (And.intro hr2 hb2));clear hv2 hr2 hk2 hb2 hown' hgrow)
 go_ret
 exact ⟨rfl,⟨_,H2.out.1,H2.out.2.1⟩,H2.out.2.2⟩
set_option maxHeartbeats 1000000 in
theorem wL (N B g m cap:Nat) (aa at_:Int) (xs:List Value) (W:World) (hN:N≤W.heap.size) (hB:N≤B) (h0:0≤at_) (h1:at_≤65600) (hm:m<4294967295)
  (hv:Boxed W B 23 (.slice (some ⟨g,0,none⟩) (m+1) cap)) (hrow:W.ownsRow N 67 2 (.slice (some ⟨g,0,none⟩) (m+1) cap) (m+1) (xs++[.int .i64 aa, .int .i64 at_])) (hxs:xs.length=m*2):
  Calls Tryz.prog 111 #[.int .i64 at_, .pointer (some ⟨B,0,none⟩)] W fun e W'=>e = .returned (.bool true)∧(∃ v,Boxed W' B 23 v∧W'.ownsRow N 67 2 v (m+1) (xs++[.int .i64 aa, .int .i64 (at_+1)]))∧Below N W W':=by
 obtain ⟨hcell,hfrz⟩:=MD hrow (m*2+1) (.int .i64 at_) (by rw [List.getElem?_append_right (by omega),show m*2+1-xs.length=1 by omega];rfl)
 obtain ⟨hcap,hcm,hg⟩:m+1≤cap∧cap≤9223372036854775807∧N≤g:=by
  rcases hrow.2 with ⟨h,_⟩ | ⟨g',_,_,h,hg,_,h5,h6,_⟩
  ·cases h
  ·cases h;exact ⟨h5,h6,hg⟩
 have hne:=hv.not_row (by decide) hrow
 have h2:(0:Int)≤(m:Int):=by omega
 have h3:(m:Int)<(m:Int)+1:=by omega
 have h4:m+1≤4294967296:=by omega
 have hc:=hv.cell
 have HR:=Lib.hid hrow
 have HB:=Lib.hid hv
 have HE:=Lib.hid hne
 clear hrow hm hv hne
 go_enter Tryz.func111,Tryz.ntmps111
 go_wp2
 go_ret
 refine ⟨rfl,⟨_,?_,mc HR.out hxs⟩,(Below.refl N W).setCell (p:=⟨g,m*2+1,none⟩) hg _⟩
 exact (Below.heap_setCell W ⟨g,m*2+1,none⟩ _ B (fun e=>HE.out (by rw [e];rfl))).trans HB.out
theorem RC (l:List (Int×Int)) (k:Int×Int) (n:Int):PM (l++[k]) n=if k.2=n then l++[(k.1,n+1)] else l++[k]++[(n,n+1)]:=by
 unfold PM
 rw [show (l++[k]).getLast? = some k by simp]
 dsimp only
 by_cases h:k.2=n
 ·rw [if_pos h]
  simp [eqI,h]
 ·rw [if_neg h,show eqI k.2 n=false from beq_false_of_ne h]
  rfl
theorem Zp1 (l:List (Int×Int)) (n:Int):PM l n≠[]:=by
 rcases List.eq_nil_or_concat l with rfl | ⟨p,k,rfl⟩
 ·simp [PM]
 ·rw [List.concat_eq_append,RC]
  split <;> simp
theorem Zni (l:List (Int×Int)) (n:Int):(PM l n).length≤l.length+1:=by
 rcases List.eq_nil_or_concat l with rfl | ⟨p,k,rfl⟩
 ·simp [PM]
 ·rw [List.concat_eq_append,RC]
  split <;> simp
theorem Zoi (N B:Nat) (l:List (Int×Int)) (at_:Int) (W:World) (hN:N≤W.heap.size) (hB:N≤B) (h0:0≤at_) (h1:at_≤65600) (hm:l.length≤4294967295) (hC:NN N B l W):
  Calls Tryz.prog 111 #[.int .i64 at_, .pointer (some ⟨B,0,none⟩)] W (Wa N B (PM l at_) W):=by
 obtain ⟨v,hv,hrow,hnil⟩:=hC
 rcases List.eq_nil_or_concat l with rfl | ⟨pre,k,rfl⟩
 ·rw [hnil rfl] at hv
  exact Zmi N B at_ W hN hB h0 h1 hv
 ·rw [List.concat_eq_append] at *
  rw [List.length_append,Gc] at hrow
  rw [List.length_append] at hm
  simp only [List.length_singleton] at hrow hm
  have hvf:∃ g cap,v = .slice (some ⟨g,0,none⟩) (pre.length+1) cap:=by
   rcases hrow.2 with ⟨_,h⟩ | ⟨g,cap,_,h,_⟩
   ·omega
   ·exact ⟨g,cap,h⟩
  obtain ⟨g,cap,rfl⟩:=hvf
  unfold Wa
  have hne:=Zp1 (pre++[k]) at_
  by_cases h:k.2=at_
  ·rw [RC,if_pos h] at hne ⊢
   subst h
   refine (wL N B g pre.length cap k.1 k.2 (Ep pre) W hN hB h0 h1 (by omega) hv hrow (Jh pre)).mono ?_
   rintro e W' ⟨he,⟨v',hv',ho⟩,hb⟩
   refine ⟨he,⟨v',hv',?_,fun h=>absurd h hne⟩,hb⟩
   rw [Gc,List.length_append]
   exact ho
  ·rw [RC,if_neg h] at hne ⊢
   refine (wK N B g pre.length cap k.1 k.2 at_ (Ep pre) W hN hB h0 h1 (by omega) h hv hrow (Jh pre)).mono ?_
   rintro e W' ⟨he,⟨v',hv',ho⟩,hb⟩
   refine ⟨he,⟨v',hv',?_,fun h=>absurd h hne⟩,hb⟩
   rw [Gc,Gc,List.length_append,List.length_append]
   exact ho
end Go.Proofs.YtclpadlpcfnfmaaGreat.Am
end

section
namespace Go.Proofs.YtclpadlpcfnfmaaGreat.Am
open Go.AM Go.AM.Pure Go.RowKit Go.Shelf Go.Lib
set_option maxRecDepth 100000
open Go.Proofs
theorem RS:∀ {n:Nat} {w b:Int} {l:List Int},Dm n w b=some l→Dm (n+1) w b=some l
 | 0,_,_,_,h=>by cases h
 | n+1,w,b,l,h=>by
  have h':=h
  unfold Dm at h'
  show (GV w b).bind _=some l
  cases hc:GV w b with
  | none=>rw [hc] at h';cases h'
  | some c=>
   rw [hc] at h'
   dsimp only [Option.bind] at h' ⊢
   cases h1:ltI c 0 with
   | true=>rw [h1] at h';exact h'
   | false=>
    rw [h1] at h'
    cases h2:ltI c 64 with
    | false=>rw [h2] at h';cases h'
    | true=>
     rw [h2] at h'
     dsimp only [cond] at h' ⊢
     cases h3:Dm n w (c+1) with
     | none=>rw [h3] at h';cases h'
     | some r=>
      rw [h3] at h'
      rw [RS h3]
      exact h'
theorem kH {n m:Nat} {w b:Int} {l:List Int} (h:Dm n w b=some l) (hm:n≤m):Dm m w b=some l:=by
 induction hm with
 | refl=>exact h
 | step _ ih=>exact RS ih
def Ch (w b:Int) (rest:List Int):Prop:=(rest=[]∧b<0)∨∃ n rest',n≤70∧rest=b :: rest'∧0≤b∧b<64∧Dm n w (b+1)=some rest'
theorem db {n:Nat} {w b0:Int} {l:List Int} (h:Dm n w b0=some l) (hn:n≤70):∃ c,GV w b0=some c∧Ch w c l:=by
 cases n with
 | zero=>cases h
 | succ n=>
  unfold Dm at h
  cases hc:GV w b0 with
  | none=>rw [hc] at h;cases h
  | some c=>
   rw [hc] at h
   dsimp only [Option.bind] at h
   refine ⟨c,rfl,?_⟩
   cases h1:ltI c 0 with
   | true=>
    rw [h1] at h
    cases h
    exact .inl ⟨rfl,of_decide_eq_true h1⟩
   | false=>
    rw [h1] at h
    cases h2:ltI c 64 with
    | false=>rw [h2] at h;cases h
    | true=>
     rw [h2] at h
     dsimp only [cond] at h
     cases h3:Dm n w (c+1) with
     | none=>rw [h3] at h;cases h
     | some r=>
      rw [h3] at h
      cases h
      have:=of_decide_eq_false h1
      exact .inr ⟨n,r,by omega,rfl,by omega,of_decide_eq_true h2,h3⟩
noncomputable def dc (w b:Int):Nat:=if b<0 then 0 else ((Dm 70 w (b+1)).getD []).length+1
theorem RA {w b:Int} {rest:List Int} (h:Ch w b rest):dc w b=rest.length:=by
 unfold dc
 rcases h with ⟨rfl,h⟩ | ⟨n,rest',hn,rfl,h0,_,h1⟩
 ·rw [if_pos h];rfl
 ·rw [if_neg (by omega),kH h1 hn]
  rfl
def fold (l:List Int):List (Int×Int):=l.foldl PM []
theorem bo (l:List Int) (x:Int):fold (l++[x])=PM (fold l) x:=by unfold fold;rw [List.foldl_append];rfl
theorem wI (l:List Int):∀ n,l.length=n→(fold l).length≤n:=by
 intro n
 induction n generalizing l with
 | zero=>intro h;rw [List.eq_nil_of_length_eq_zero h];exact Nat.le_refl _
 | succ n ih=>
  intro h
  rcases List.eq_nil_or_concat l with rfl | ⟨p,x,rfl⟩
  ·cases h
  ·rw [List.concat_eq_append] at h ⊢
   rw [bo]
   have:=Zni (fold p) x
   have:=ih p (by simpa using h)
   omega
theorem Zli (l:List Int):(fold l).length≤l.length:=wI l _ rfl
def plW (ws:List Int) (k:Nat):List Int:=(List.range k).flatMap fun j=>((Dm 70 (ws.getD j 0) 0).getD []).map fun b=>64*(j:Int)+b
theorem MC (ws:List Int) (k:Nat):plW ws (k+1)=plW ws k++((Dm 70 (ws.getD k 0) 0).getD []).map fun b=>64*(k:Int)+b:=by
 unfold plW
 rw [List.range_succ,List.flatMap_append]
 simp
theorem Zs8 (ws:List Int) {k n:Nat} (h:k≤n):(plW ws k).length≤(plW ws n).length:=by
 induction h with
 | refl=>exact Nat.le_refl _
 | step _ ih=>rw [MC,List.length_append];omega
theorem RB (w b c:Int) (W:World) (hF:GV w b=some c):Calls Tryz.prog 85 #[.int .i64 w, .int .i64 b] W fun e W'=>e = .returned (.int .i64 c)∧Below W.heap.size W W':=by
 have hz:Lay.ok 0 W:=⟨rfl,Nat.zero_le _⟩
 refine (Qx (ps:=[.int .i64, .int .i64]) (rs:=[(.int .i64,[])]) (x:=(w,b,())) (y:=c) (F:=fun x=>GV x.1 x.2.1) kI hF (ok0:=fun _ _=>False) (vs:=[.int .i64 w, .int .i64 b]) hz (fun _ _ h=>h.elim) ⟨[.int .i64 w],_,rfl,rfl,[.int .i64 b],_,rfl,rfl,rfl⟩).mono ?_
 rintro e W' ⟨⟨us,⟨cs,h1,h2⟩,rfl⟩,hb⟩
 simp only [RepD] at h2
 subst h2
 subst h1
 exact ⟨rfl,hb⟩
theorem Zk {ok0:Nat→Nat→Prop} {w:World} {N:Nat} {ws:List Int} {V:Value} (h:RepD ok0 w (.sl (.int .i64)) ws [V]) (hok:∀ b o,ok0 b o→b<N):
  (ws=[]∧∃ a cap,V = .slice a 0 cap)∨∃ b off cap,V = .slice (some ⟨b,off,none⟩) ws.length cap∧ws.length≤cap∧cap≤9223372036854775807∧b<N∧∀ (k:Nat),k<ws.length→w.cell? ⟨b,off+k,none⟩=some (.int .i64 (ws.getD k 0)):=by
 obtain ⟨a,n,cap,hv,hln,hn,hmx,hc⟩:=h
 cases hv
 have hln':ws.length=n:=hln
 subst hln'
 cases ws with
 | nil=>exact .inl ⟨rfl,a,cap,rfl⟩
 | cons u us=>
  obtain ⟨A,hA,hs,ys,hy,hyc⟩:=hc 0 u rfl
  cases hA
  simp only [RepD] at hy
  subst hy
  obtain ⟨Ab,Ao,As⟩:=A
  dsimp only at hs
  subst hs
  refine .inr ⟨Ab,Ao,cap,rfl,hn,hmx,hok _ _ (hyc 0 _ rfl).1,fun k hk=>?_⟩
  have hx:(u :: us)[k]? = some ((u :: us).getD k 0):=by
   rw [List.getD_eq_getElem?_getD,List.getElem?_eq_getElem hk];rfl
  obtain ⟨A',hA',_,ys,hy,hyc'⟩:=hc k _ hx
  cases hA'
  simp only [RepD] at hy
  subst hy
  have:=(hyc' 0 _ rfl).2
  simpa [Ty.sz] using this
theorem Xu {N B:Nat} {l:List (Int×Int)} {W W':World} (h:NN N B l W) (hb:Below W.heap.size W W'):NN N B l W':=by
 obtain ⟨v,hv,ho,hnil⟩:=h
 refine ⟨v,(hb.block B hv.lt).trans hv,?_,hnil⟩
 obtain ⟨hl,h | ⟨g,cap,cur,hv,hg,hh,r⟩⟩:=ho
 ·exact ⟨hl, .inl h⟩
 ·exact ⟨hl, .inr ⟨g,cap,cur,hv,hg,(hb.block g (Array.getElem?_eq_some_iff.1 hh).1).trans hh,r⟩⟩
def VZ (N B:Nat) (ps:List Int) (W:World) (e:Ending) (W':World):Prop:=e = .returned (.tuple #[])∧NN N B (fold ps) W'∧Below N W W'
def Zt8 (N B:Nat) (ws:List Int) (W:World) (i:Value) (wr:World):Prop:=
 ∃ k:Nat,k≤ws.length∧i = .int .i64 k∧NN N B (fold (plW ws k)) wr∧Below N W wr
def Zlf1 (N B:Nat) (ws:List Int) (k:Nat) (W:World) (v:Value) (wr:World):Prop:=
 ∃ (b:Int) (done rest:List Int),v = .int .i64 b∧Dm 70 (ws.getD k 0) 0=some (done++rest)∧Ch (ws.getD k 0) b rest∧NN N B (fold (plW ws k++done.map fun b=>64*(k:Int)+b)) wr∧Below N W wr
set_option maxHeartbeats 2000000 in
theorem wJ (N B b off cap:Nat) (ws:List Int) (W:World) (hN:N≤W.heap.size) (hB:N≤B) (hl:ws.length≤1024) (hcap:ws.length≤cap) (hcm:cap≤9223372036854775807) (hb:b<N)
  (hc:∀ (k:Nat),k<ws.length→W.cell? ⟨b,off+k,none⟩=some (.int .i64 (ws.getD k 0))) (hbits:∀ k,k<ws.length→∃ bs,Dm 70 (ws.getD k 0) 0=some bs) (hps:(plW ws ws.length).length≤4294967295) (hC:NN N B [] W):
  Calls Tryz.prog 110 #[.slice (some ⟨b,off,none⟩) ws.length cap, .func (.func 111) #[] #[.pointer (some ⟨B,0,none⟩)]] W (VZ N B (plW ws ws.length) W):=by
 have HC:=Lib.hid hc
 have HB:=Lib.hid hbits
 have H0:=Lib.hid hC
 clear hc hbits hC
 go_enter Tryz.func110,Tryz.ntmps110
 go_wp2
 go_loopw [9] (fun i wr=>Zt8 N B ws W i wr) (fun i _=>ws.length-(intOf i).toNat)
 case atStart=>exact ⟨0,Nat.zero_le _,rfl,H0.out,Below.refl _ _⟩
 case round=>
  obtain ⟨k,hk,rfl,hcoll,hbel⟩:=hrel
  have HK:=Lib.hid hcoll
  have HL:=Lib.hid hbel
  clear hcoll hbel
  by_cases hlt:k<ws.length
  ·obtain ⟨x,hx⟩:∃ x,ws.getD k 0=x:=⟨_,rfl⟩
   obtain ⟨bs,hbs⟩:=HB.out k hlt
   obtain ⟨c,hn1,hch⟩:=db hbs (Nat.le_refl _)
   have hcell:wr.cell? ⟨b,off+k,none⟩=some (.int .i64 x):=by rw [← hx];exact (HL.out.cell (p:=⟨b,off+k,none⟩) hb).trans (HC.out k hlt)
   rw [hx] at hn1
   have HX:=Lib.hid hx
   have H1:=Lib.hid hn1
   have H2:=Lib.hid hch
   have H3:=Lib.hid hbs
   clear hx hn1 hch hbs
   go_wp2_with (go_at_call 85;refine (RB x 0 c _ H1.out).mono ?_;rintro e w2 ⟨rfl,hb2⟩;have H4:=Lib.hid hb2;clear hb2)
   have HZ:Below N W w2:=HL.out.trans (H4.out.mono (Nat.le_trans hN HL.out.size))
   have H5:=Lib.hid HZ
   clear HZ
   obtain ⟨wo,hwo⟩:∃ wo:World,wo=w2:=⟨_,rfl⟩
   go_loopw [6] (fun v wq=>Zlf1 N B ws k W v wq) (fun v _=>dc x (intOf v))
   case atStart=>
    refine ⟨c,[],bs,rfl,?_,?_,?_,H5.out⟩
    ·exact H3.out
    ·exact H2.out
    ·simp only [List.map_nil,List.append_nil]
     exact Xu HK.out H4.out
   case round=>
    obtain ⟨d,done,rest,rfl,hbs,hch,hcoll,hbel⟩:=hrel
    rw [HX.out] at hbs hch
    have hchl:=RA hch
    rcases hch with ⟨rfl,hd⟩ | ⟨n,rest',hn,rfl,h0,h64,hnx⟩
    ·have G1:=Lib.hid hbs
     have G2:=Lib.hid hcoll
     have G3:=Lib.hid hbel
     clear hbs hcoll hbel hchl
     go_wp2
     go_roundw
     case rel=>
      refine ⟨k+1,by omega,by go_num,?_,G3.out⟩
      rw [MC,HX.out,G1.out,List.append_nil]
      exact G2.out
     case measure=>simp [intOf];omega
    ·have hlen:(fold (plW ws k++done.map fun b=>64*(k:Int)+b)).length≤4294967295:=by
      have h1:=Zli (plW ws k++done.map fun b=>64*(k:Int)+b)
      have h2:=Zs8 ws (show k+1≤ws.length by omega)
      rw [MC,HX.out,hbs] at h2
      simp only [List.length_append,List.length_map,Option.getD_some,List.length_cons] at h1 h2
      omega
     obtain ⟨c2,hn2,hch2⟩:=db hnx hn
     have hcl2:=RA hch2
     have hsn:=bo (plW ws k++done.map fun b=>64*(k:Int)+b) (64*(k:Int)+d)
     have G1:=Lib.hid hbs
     have G2:=Lib.hid hcoll
     have G3:=Lib.hid hbel
     have G4:=Lib.hid hn2
     have G5:=Lib.hid hch2
     have G6:=Lib.hid hchl
     have G7:=Lib.hid hcl2
     have G8:=Lib.hid hsn
     have G9:=Lib.hid hlen
     clear hbs hcoll hbel hchl hnx hn2 hch2 hcl2 hsn hlen hwo
     go_wp2_with (first
      | (go_at_call 111;refine (Zoi N B _ (64*(k:Int)+d) _ (Nat.le_trans hN G3.out.size) hB (by omega) (by omega) G9.out G2.out).mono ?_;rintro e w5 ⟨rfl,hc5,hb5⟩;have F1:=Lib.hid hc5;have F2:=Lib.hid hb5;clear hc5 hb5)
      | (go_at_call 85;refine (RB x (d+1) c2 _ G4.out).mono ?_;rintro e w6 ⟨rfl,hb6⟩;have F3:=Lib.hid hb6;clear hb6))
     go_roundw
     case rel=>
      refine ⟨c2,done++[d],rest',rfl,?_,?_,?_,G3.out.trans (F2.out.trans (F3.out.mono (Nat.le_trans (Nat.le_trans hN G3.out.size) F2.out.size)))⟩
      ·rw [HX.out,G1.out,List.append_assoc];rfl
      ·rw [HX.out];exact G5.out
      ·rw [List.map_append,← List.append_assoc]
       show NN N B (fold (_++[64*(k:Int)+d])) _
       rw [G8.out]
       exact Xu F1.out F3.out
     case measure=>
      have e1:=G6.out
      have e2:=G7.out
      simp only [intOf]
      rw [e1,e2]
      simp
  ·obtain rfl:k=ws.length:=by omega
   go_wp2
   go_end0
   exact ⟨rfl,HK.out,HL.out⟩
end Go.Proofs.YtclpadlpcfnfmaaGreat.Am
end

section
namespace Go.Proofs.YtclpadlpcfnfmaaGreat.Am
open Go.AM Go.AM.Pure Go.RowKit Go.Shelf Go.Lib
set_option maxRecDepth 100000
open Go.Proofs
set_option maxHeartbeats 1000000 in
theorem wE (N B:Nat) (a:Option Addr) (cap:Nat) (W:World) (hC:NN N B [] W):
  Calls Tryz.prog 110 #[.slice a 0 cap, .func (.func 111) #[] #[.pointer (some ⟨B,0,none⟩)]] W (VZ N B [] W):=by
 have H0:=Lib.hid hC
 clear hC
 go_enter Tryz.func110,Tryz.ntmps110
 go_wp2
 refine wp_loop_rounds 1 ?_
 rw [rounds_succ]
 go_wp2
 go_end0
 exact ⟨rfl,H0.out,Below.refl _ _⟩
theorem mb {ok0:Nat→Nat→Prop} (V:Value) (ws:List Int) (b:Bool) (w:World) (hok:∀ b o,ok0 b o→b<w.heap.size) (hr:RepD ok0 w (.sl (.int .i64)) ws [V]) (hF:FK ws=some b):
  Calls Tryz.prog 109 #[V] w fun e w'=>e = .returned (.bool b)∧Below w.heap.size w w':=by
 refine (Qx (ps:=[.sl (.int .i64)]) (rs:=[(.bool,[])]) (x:=(ws,())) (y:=b) (F:=fun x=>FK x.1) PX hF (vs:=[V]) (z:=0) ⟨rfl,Nat.zero_le _⟩ hok ⟨[V],_,rfl,hr,rfl⟩).mono ?_
 rintro e W' ⟨⟨us,⟨cs,h1,h2⟩,rfl⟩,hb⟩
 simp only [RepD] at h2
 subst h2
 subst h1
 exact ⟨rfl,hb⟩
theorem Xt:∀ (ws:List Int) (k:Nat) (ps:List Int),Ht (k:Int) ws=some ps→
  ps=((List.range ws.length).flatMap fun j=>((Dm 70 (ws.getD j 0) 0).getD []).map fun b=>64*((k+j:Nat):Int)+b)∧∀ j,j<ws.length→∃ bs,Dm 70 (ws.getD j 0) 0=some bs
 | [],k,ps,h=>by
  cases h
  exact ⟨rfl,fun j hj=>by cases hj⟩
 | w :: ws,k,ps,h=>by
  have h:(Dm 70 w 0).bind (fun bs=>(Ht ((k:Int)+1) ws).bind fun r=>some (bs.map (fun b=>64*(k:Int)+b)++r))=some ps:=h
  cases h1:Dm 70 w 0 with
  | none=>rw [h1] at h;cases h
  | some bs=>
   rw [h1] at h
   dsimp only [Option.bind] at h
   cases h2:Ht ((k:Int)+1) ws with
   | none=>rw [h2] at h;cases h
   | some r=>
    rw [h2] at h
    cases h
    obtain ⟨h3,h4⟩:=Xt ws (k+1) r (by rw [← h2];rfl)
    refine ⟨?_,fun j hj=>?_⟩
    ·rw [List.length_cons,List.range_succ_eq_map,List.flatMap_cons,List.flatMap_map,h3]
     congr 1
     ·show _=((Dm 70 w 0).getD []).map _
      rw [h1]
      rfl
     ·congr 1
      funext j
      show _=((Dm 70 (ws.getD j 0) 0).getD []).map _
      congr 1
      funext b
      congr 2
      push_cast
      omega
    ·cases j with
     | zero=>exact ⟨bs,h1⟩
     | succ j=>exact h4 j (by simpa using hj)
theorem wF {ws ps:List Int} (h:Ht 0 ws=some ps):ps=plW ws ws.length∧∀ j,j<ws.length→∃ bs,Dm 70 (ws.getD j 0) 0=some bs:=by
 obtain ⟨h1,h2⟩:=Xt ws 0 ps h
 refine ⟨?_,h2⟩
 rw [h1]
 unfold plW
 simp
theorem Zji {ok0:Nat→Nat→Prop} (N B:Nat) (V:Value) (ws ps:List Int) (W:World) (hN:N≤W.heap.size) (hB:N≤B) (hl:ws.length≤1024) (hok:∀ b o,ok0 b o→b<N) (hr:RepD ok0 W (.sl (.int .i64)) ws [V])
  (hp:Ht 0 ws=some ps) (hps:ps.length≤4294967295) (hC:NN N B [] W):Calls Tryz.prog 110 #[V, .func (.func 111) #[] #[.pointer (some ⟨B,0,none⟩)]] W (VZ N B ps W):=by
 obtain ⟨rfl,hbits⟩:=wF hp
 rcases Zk hr hok with ⟨rfl,a,cap,rfl⟩ | ⟨b,off,cap,rfl,h1,h2,h3,h4⟩
 ·exact wE N B a cap W hC
 ·exact wJ N B b off cap ws W hN hB hl h1 h2 h3 h4 hbits hps hC
set_option maxHeartbeats 1000000 in
theorem Zki {ok0:Nat→Nat→Prop} (V:Value) (ws:List Int) (w:World) (hok:∀ b o,ok0 b o→b<w.heap.size) (hr:RepD ok0 w (.sl (.int .i64)) ws [V]) (hF:FK ws=some false):
  Calls Tryz.prog 62 #[V] w fun e w'=>e = .returned (.tuple #[.slice none 0 0, .int .i64 1])∧Below w.heap.size w w':=by
 go_enter Tryz.func62,Tryz.ntmps62
 go_wp2_with fail
 refine (mb V ws false w hok hr hF).mono ?_
 rintro e w1 ⟨rfl,hb1⟩
 clear hr hok hF
 go_wp2
 go_ret2
 exact ⟨rfl,hb1⟩
def wG (n0:Nat) (w:World) (ps:List Int) (e:Ending) (w':World):Prop:=
 ∃ v,e = .returned (.tuple #[v, .int .i64 0])∧w'.ownsRow n0 67 2 v (fold ps).length (Ep (fold ps))∧Below n0 w w'
set_option maxHeartbeats 1000000 in
theorem wH {ok0:Nat→Nat→Prop} (V:Value) (ws ps:List Int) (w:World) (hok:∀ b o,ok0 b o→b<w.heap.size) (hr:RepD ok0 w (.sl (.int .i64)) ws [V]) (hF:FK ws=some true)
  (hl:ws.length≤1024) (hp:Ht 0 ws=some ps) (hps:ps.length≤4294967295):Calls Tryz.prog 62 #[V] w (wG w.heap.size w ps):=by
 go_enter Tryz.func62,Tryz.ntmps62
 go_wp2_with fail
 refine (mb V ws true w hok hr hF).mono ?_
 rintro e w1 ⟨rfl,hb1⟩
 have hr1:=GR (GR hr hok hb1) (w':=w1.alloc (.cells #[.slice none 0 0] 23)) (fun b o h=>Nat.lt_of_lt_of_le (hok b o h) hb1.size) ((Below.refl _ _).alloc (Nat.le_refl _) _)
 have hC:NN w.heap.size w1.heap.size [] (w1.alloc (.cells #[.slice none 0 0] 23)):=⟨_,Boxed.new w1 23 _,World.ownsRow_nil _ _ _ _,fun _=>rfl⟩
 have HA:=Lib.hid (Zji w.heap.size w1.heap.size V ws ps _ (by simp;have:=hb1.size;omega) hb1.size hl hok hr1 hp hps hC)
 have H1:=Lib.hid hb1
 clear hr hok hF hr1 hC hb1 hp
 go_wp2_with fail
 refine HA.out.mono ?_
 rintro e w2 ⟨rfl,⟨v,hv,ho,_⟩,hb2⟩
 have hc:=hv.cell
 have HO:=Lib.hid ho
 have H2:=Lib.hid hb2
 clear ho hb2 hv
 go_wp2
 go_ret2
 exact ⟨v,rfl,HO.out,(H1.out.alloc H1.out.size _).trans H2.out⟩
@[reducible] def Qy : AM.Spec := AM.spec [.val (.sl (.int .i64))] [(.sl (.pair (.int .i64) (.int .i64)), []), (.int .i64, [])] (fun x => NS x.1)
theorem cx:Ah Tryz.prog 62 Qy:=
 Ud (ps:=[.sl (.int .i64)]) (rs:=[.sl Oh, .int .i64]) fun x y hF ok0 w vs z hz hok ha=>by
  obtain ⟨cs,r,rfl,hr,hr0⟩:=ha
  cases hr0
  have hcs:∃ V,cs=[V]:=by
   obtain ⟨a,n,cap,h,_⟩:=hr
   exact ⟨_,h⟩
  obtain ⟨V,rfl⟩:=hcs
  obtain ⟨l,u⟩:=x
  have hF:NS l=some y:=hF
  unfold NS at hF
  cases hcf:FK l with
  | none=>rw [hcf] at hF;cases hF
  | some b=>
   rw [hcf] at hF
   cases b with
   | false=>
    cases hF
    refine (Zki V l w hok hr hcf).mono ?_
    rintro e w' ⟨rfl,hb⟩
    exact ⟨PF (l:=[]) (World.ownsRow_nil _ _ _ _),hb⟩
   | true=>
    dsimp only [Option.bind,cond] at hF
    cases hp:Ht 0 l with
    | none=>rw [hp] at hF;cases hF
    | some ps=>
     rw [hp] at hF
     dsimp only at hF
     cases hg:(decide (l.length≤1024) && decide (ps.length≤4294967295)) with
     | false=>rw [hg] at hF;cases hF
     | true=>
      rw [hg] at hF
      cases hF
      rw [Bool.and_eq_true] at hg
      refine (wH V l ps w hok hr hcf (of_decide_eq_true hg.1) hp (of_decide_eq_true hg.2)).mono ?_
      rintro e w' ⟨v,rfl,ho,hb⟩
      exact ⟨PF ho,hb⟩
end Go.Proofs.YtclpadlpcfnfmaaGreat.Am
end
