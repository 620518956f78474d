import Derived.RangeFuncBox
import Derived.RangeFuncLeaves
import Derived.Shelf.Abstract
import Derived.WalkKit
import Derived.OwnWalkIn
import Derived.TacticsInMore
import Derived.LoopNIn
import Derived.LoopIn
import Derived.Maps.AppendAt
import Derived.Outline
import Derived.WalkLawsBesides
import Derived.BigRegion
import Derived.BigQuiet
import Derived.Deep.QuietTactic
import Derived.Test.YtclpadlpcfnfmaaGreatAmHand18
import Derived.Test.YtclpadlpcfnfmaaGreatSPrfA
section
namespace Go.Proofs.YtclpadlpcfnfmaaGreat.Am
open Go.AM Go.AM.Pure Go.RowKit Go.Shelf Go.Lib
set_option maxRecDepth 100000
open Go.Proofs
def ID (l:List (Int×Int)):List Value:=l.flatMap fun s=>[.int .i64 s.1, .int .i64 s.2]
theorem ZP:(Tryz.prog.info? 67).map (fun i=>(i.zero,i.size,i.bytes))=some (some (.agg #[.int .i64 0, .int .i64 0]),2,16):=by kernel_rfl
theorem Zl {w:World} {b:Nat} {lo hi:Int} {T:TypeId} {y:Nat×Nat} (h:w.heap[b]? = some (.cells #[.int .i64 lo, .int .i64 hi] T y)):∀ (j:Nat) (u:Value),[Value.int .i64 lo,Value.int .i64 hi][j]? = some u→w.cell? ((⟨b,0,none⟩:Addr).add j)=some u:=by
 intro j u hj
 rw [Addr.add_lit,Au,cell_of_row w b j _ T y h,← hj]
 simp
theorem Y4 {lo hi:Int}:∀ (u:Value),u∈[Value.int IntKind.i64 lo,Value.int IntKind.i64 hi]→u.oneCell'=true:=by
 intro u hu
 simp at hu
 rcases hu with rfl | rfl <;> rfl
theorem below_drewN {n:Nat} {a b:World} (h:Below n a b) (k:Nat):Below n a (b.drewN k):=⟨h.os,h.tape,h.output,h.size,h.block⟩
theorem Ycu {w:World} {n0:Nat} {T:TypeId} {sz n:Nat} {v:Value} {xs:List Value} (h:w.ownsRow n0 T sz v n xs) (o o':Obj) (k:Nat):(((w.alloc o).drewN k).alloc o').ownsRow n0 T sz v n xs:=
 World.ownsRow.alloc (w:=(w.alloc o).drewN k) (h.alloc o) o'
theorem Tl {w:World} {n0 g:Nat} {T:TypeId} {sz n cap:Nat} {xs:List Value} (h:w.ownsRow n0 T sz (.slice (some ⟨g,0,none⟩) n cap) n xs) (j:Nat) (u:Value) (hj:xs[j]? = some u):w.cell? ⟨g,j,none⟩=some u∧w.frozen? ⟨g,j,none⟩=false:=by
 obtain ⟨_,⟨h,_⟩ | ⟨g',CT,cur,hv,_,hh,_,_,_,Fc⟩⟩:=h
 ·cases h
 ·cases hv
  rw [← Fc,AA] at hj
  split at hj
  ·refine ⟨?_,by simp [World.frozen?,hh]⟩
   rw [cell_of_row w g j cur T (0,0) hh]
   simpa using hj
  ·cases hj
theorem ve {w:World} {n0 g m cap:Nat} {aa b c:Value} {xs:List Value} (h:w.ownsRow n0 67 2 (.slice (some ⟨g,0,none⟩) (m+1) cap) (m+1) (xs++[aa,b])) (Ol:xs.length=m*2):
  (w.setCell ⟨g,m*2+1,none⟩ c).ownsRow n0 67 2 (.slice (some ⟨g,0,none⟩) (m+1) cap) (m+1) (xs++[aa,c]):=by
 obtain ⟨hl,⟨h,_⟩ | ⟨g',CT,cur,hv,hg,hh,h1,h2,h3,Fc⟩⟩:=h
 ·cases h
 ·cases hv
  refine ⟨by simp at hl ⊢;omega, .inr ⟨g,cap,cur.setIfInBounds (m*2+1) c,rfl,hg,?_,h1,h2,by simpa using h3,?_⟩⟩
  ·simp [World.setCell,Array.getElem?_modify,hh]
  ·rw [Array.toList_setIfInBounds,List.take_set,Fc,List.set_append_right _ _ (by omega),show m*2+1-xs.length=1 by omega]
   rfl
theorem Ze7 (a b:Int):EM a b=max a b:=by
 unfold EM
 split <;> omega
set_option maxHeartbeats 1000000 in
theorem Zf7 (n0:Nat) (lo hi:Int) (w:World) (Df:n0≤w.heap.size) (AO:lo<hi):
  Calls Tryz.prog 116 #[.slice none 0 0, .agg #[.int .i64 lo, .int .i64 hi]] w fun e w'=>∃ v',e = .returned v'∧w'.ownsRow n0 67 2 v' 1 [.int .i64 lo, .int .i64 hi]∧Below n0 w w':=by
 obtain ⟨i0,I0,JS,KI,L3⟩:=info_parts ZP
 go_enter Tryz.func116,Tryz.ntmps116
 go_wp2
 go_quiet (fail)
 go_wp2_with (at_builtin;refine wpList_append_own _ rfl _ _ 23 rfl n0 67 i0 (.agg #[.int .i64 0, .int .i64 0]) 2 16 Tryz.underlying23 I0 JS KI L3 rfl (by decide) _ _ _ rfl (World.ownsRow_nil _ _ _ _) ⟨w.heap.size+1,0,none⟩ 1 1 [.int .i64 lo, .int .i64 hi] rfl ?c1 ?c2 Y4 ?c4 ?c5 ?c6 ?_)
 case c1=>rfl
 case c2=>exact Zl (T:=67) (y:=(0,0)) (by have:=heap_alloc_new ((w.alloc (Obj.cells #[Value.int IntKind.i64 lo,Value.int IntKind.i64 hi] 67)).drewN nq) (Obj.cells #[Value.int IntKind.i64 lo,Value.int IntKind.i64 hi] 67);simpa using this)
 case c4=>decide
 case c5=>decide
 case c6=>simp;omega
 intro v' w1 Ej LK Mz
 go_wp2
 go_ret
 exact ⟨v',rfl,Ej,((below_drewN ((Below.refl n0 w).alloc Df _) nq).alloc (by simp;omega) _).grown LK (by simp;omega) (by intro k hk;simp [Value.ownBlock] at hk)⟩
set_option maxHeartbeats 1000000 in
theorem Zov (n0 g m cap:Nat) (aa b lo hi:Int) (xs:List Value) (w:World) (Df:n0≤w.heap.size) (AO:lo<hi) (Ye5:b<lo) (hm:m<4294967296)
  (Ej:w.ownsRow n0 67 2 (.slice (some ⟨g,0,none⟩) (m+1) cap) (m+1) (xs++[.int .i64 aa, .int .i64 b])) (Ol:xs.length=m*2):
  Calls Tryz.prog 116 #[.slice (some ⟨g,0,none⟩) (m+1) cap, .agg #[.int .i64 lo, .int .i64 hi]] w fun e w'=>∃ v',e = .returned v'∧w'.ownsRow n0 67 2 v' (m+2) (xs++[.int .i64 aa, .int .i64 b]++[.int .i64 lo, .int .i64 hi])∧Below n0 w w':=by
 obtain ⟨i0,I0,JS,KI,L3⟩:=info_parts ZP
 have hg:g<w.heap.size:=by
  rcases Ej.2 with ⟨h,_⟩ | ⟨g',_,_,h,_,hh,_⟩
  ·cases h
  ·cases h;exact (Array.getElem?_eq_some_iff.1 hh).1
 have C8:=(Tl Ej (m*2+1) (.int .i64 b) (by rw [Aw (by omega),show m*2+1-xs.length=1 by omega];rfl)).1
 obtain ⟨Fa,JT⟩:m+1≤cap∧cap≤9223372036854775807:=by
  rcases Ej.2 with ⟨h,_⟩ | ⟨g',_,_,h,_,_,h5,h6,_⟩
  ·cases h
  ·cases h;exact ⟨h5,h6⟩
 have h1:(0:Int)≤(m:Int):=by omega
 have h2:(m:Int)<(m:Int)+1:=by omega
 have h3:m+1≤4294967296:=by omega
 have JR:n0≤g:=by
  rcases Ej.2 with ⟨h,_⟩ | ⟨g',_,_,h,hb,_⟩
  ·cases h
  ·cases h;exact hb
 have H8:(w.alloc (.cells #[.int .i64 lo, .int .i64 hi] 67)).cell? ⟨g,m*2+1,none⟩=some (.int .i64 b):=(World.cell?_alloc_lt w _ ⟨g,m*2+1,none⟩ hg).trans C8
 have HO:=Lib.hid Ej
 clear Ej hm C8
 go_enter Tryz.func116,Tryz.ntmps116
 go_wp2
 go_quiet (fail)
 go_wp2_with (at_builtin;refine wpList_append_own _ rfl _ _ 23 rfl n0 67 i0 (.agg #[.int .i64 0, .int .i64 0]) 2 16 Tryz.underlying23 I0 JS KI L3 rfl (by decide) _ _ _ rfl (Ycu HO.out _ _ _) ⟨w.heap.size+1,0,none⟩ 1 1 [.int .i64 lo, .int .i64 hi] rfl ?c1 ?c2 Y4 ?c4 ?c5 ?c6 ?_)
 case c1=>rfl
 case c2=>exact Zl (T:=67) (y:=(0,0)) (by have:=heap_alloc_new ((w.alloc (Obj.cells #[Value.int IntKind.i64 lo,Value.int IntKind.i64 hi] 67)).drewN nq) (Obj.cells #[Value.int IntKind.i64 lo,Value.int IntKind.i64 hi] 67);simpa using this)
 case c4=>unfold maxLen;omega
 case c5=>omega
 case c6=>simp;omega
 intro v' w1 Yv1 LK Mz
 go_wp2
 go_ret
 refine ⟨v',rfl,by simpa using Yv1,((below_drewN ((Below.refl n0 w).alloc Df _) nq).alloc (by simp;omega) _).grown LK (by simp;omega) (by intro k hk;simp [Value.ownBlock] at hk;omega)⟩
set_option maxHeartbeats 1000000 in
theorem Zpv (n0 g m cap:Nat) (aa b lo hi:Int) (xs:List Value) (w:World) (Df:n0≤w.heap.size) (AO:lo<hi) (Ye5:lo≤b) (hm:m<4294967296)
  (Ej:w.ownsRow n0 67 2 (.slice (some ⟨g,0,none⟩) (m+1) cap) (m+1) (xs++[.int .i64 aa, .int .i64 b])) (Ol:xs.length=m*2):
  Calls Tryz.prog 116 #[.slice (some ⟨g,0,none⟩) (m+1) cap, .agg #[.int .i64 lo, .int .i64 hi]] w fun e w'=>∃ v',e = .returned v'∧w'.ownsRow n0 67 2 v' (m+1) (xs++[.int .i64 aa, .int .i64 (EM b hi)])∧Below n0 w w':=by
 have hg:g<w.heap.size:=by
  rcases Ej.2 with ⟨h,_⟩ | ⟨g',_,_,h,_,hh,_⟩
  ·cases h
  ·cases h;exact (Array.getElem?_eq_some_iff.1 hh).1
 have C8:=(Tl Ej (m*2+1) (.int .i64 b) (by rw [Aw (by omega),show m*2+1-xs.length=1 by omega];rfl)).1
 obtain ⟨Fa,JT⟩:m+1≤cap∧cap≤9223372036854775807:=by
  rcases Ej.2 with ⟨h,_⟩ | ⟨g',_,_,h,_,_,h5,h6,_⟩
  ·cases h
  ·cases h;exact ⟨h5,h6⟩
 have h1:(0:Int)≤(m:Int):=by omega
 have h2:(m:Int)<(m:Int)+1:=by omega
 have h3:m+1≤4294967296:=by omega
 have JR:n0≤g:=by
  rcases Ej.2 with ⟨h,_⟩ | ⟨g',_,_,h,hb,_⟩
  ·cases h
  ·cases h;exact hb
 have H8:(w.alloc (.cells #[.int .i64 lo, .int .i64 hi] 67)).cell? ⟨g,m*2+1,none⟩=some (.int .i64 b):=(World.cell?_alloc_lt w _ ⟨g,m*2+1,none⟩ hg).trans C8
 have nJ:(w.alloc (.cells #[.int .i64 lo, .int .i64 hi] 67)).frozen? ⟨g,m*2+1,none⟩=false:=(Tl (Ej.alloc _) (m*2+1) _ (by rw [Aw (by omega),show m*2+1-xs.length=1 by omega];rfl)).2
 have HO:=Lib.hid Ej
 clear Ej hm C8
 go_enter Tryz.func116,Tryz.ntmps116
 go_wp2
 go_quiet (fail)
 go_wp2
 go_region
 go_wp2
 go_ret
 exact ⟨_,rfl,by rw [Ze7];exact ve (w:=(w.alloc (.cells #[.int .i64 lo, .int .i64 hi] 67)).drewN (nq+1)) (HO.out.alloc _) Ol,(below_drewN ((Below.refl n0 w).alloc Df _) (nq+1)).setCell (p:=⟨g,m*2+1,none⟩) JR _⟩
theorem qV (s:Int×Int):KZ [] s=[s]:=rfl
theorem eX (l:List (Int×Int)) (k s:Int×Int):KZ (l++[k]) s=if s.1≤k.2 then l++[(k.1,EM k.2 s.2)] else l++[k]++[s]:=by
 unfold KZ
 rw [show (l++[k]).getLast? = some k by simp]
 dsimp only
 by_cases h:s.1≤k.2
 ·rw [if_pos h]
  simp [Bq,h]
 ·rw [if_neg h]
  simp [Bq,h]
theorem PW (l:List (Int×Int)) (k:Int×Int):ID (l++[k])=ID l++[.int .i64 k.1, .int .i64 k.2]:=by simp [ID]
theorem UG (l:List (Int×Int)):(ID l).length=l.length*2:=by
 induction l with
 | nil=>rfl
 | cons a l ih=>simp [ID] at ih ⊢;omega
def td (n0:Nat) (l:List (Int×Int)) (lo hi:Int) (w:World) (e:Ending) (w':World):Prop:=
 ∃ v',e = .returned v'∧w'.ownsRow n0 67 2 v' (KZ l (lo,hi)).length (ID (KZ l (lo,hi)))∧Below n0 w w'
theorem Zb7 (n0:Nat) (v:Value) (l:List (Int×Int)) (lo hi:Int) (w:World) (Df:n0≤w.heap.size) (AO:lo<hi) (hm:l.length≤4294967295)
  (Ej:w.ownsRow n0 67 2 v l.length (ID l)) (Mz:l=[]→v = .slice none 0 0):Calls Tryz.prog 116 #[v, .agg #[.int .i64 lo, .int .i64 hi]] w (td n0 l lo hi w):=by
 rcases List.eq_nil_or_concat l with rfl | ⟨pre,k,rfl⟩
 ·rw [Mz rfl]
  exact Zf7 n0 lo hi w Df AO
 ·rw [List.concat_eq_append] at *
  rw [Ae,PW] at Ej
  rw [Ae] at hm
  simp only [AG] at Ej hm
  have hv:∃ g cap,v = .slice (some ⟨g,0,none⟩) (pre.length+1) cap:=by
   rcases Ej.2 with ⟨_,h⟩ | ⟨g,cap,_,h,_⟩
   ·omega
   ·exact ⟨g,cap,h⟩
  obtain ⟨g,cap,rfl⟩:=hv
  unfold td
  rw [eX]
  dsimp only
  by_cases h:lo≤k.2
  ·rw [if_pos h,PW,Ae]
   exact Zpv n0 g pre.length cap k.1 k.2 lo hi (ID pre) w Df AO h (by omega) Ej (UG pre)
  ·rw [if_neg h,PW,PW,Ae,Ae]
   exact Zov n0 g pre.length cap k.1 k.2 lo hi (ID pre) w Df AO (by omega) (by omega) Ej (UG pre)
end Go.Proofs.YtclpadlpcfnfmaaGreat.Am
end

section
namespace Go.Proofs.YtclpadlpcfnfmaaGreat.Am
open Go.AM Go.AM.Pure Go.RowKit Go.Shelf Go.Lib
open Go.Sort (Holds putRow)
set_option maxRecDepth 100000
open Go.Proofs
set_option maxHeartbeats 1000000 in
theorem Yvn (w:World):Calls Tryz.prog 206 #[.slice none 0 0, .int .i64 0, .int .i64 0] w fun e w'=>e = .returned (.tuple #[])∧w'=w:=by
 go_enter Tryz.func206,Tryz.ntmps206
 go_wp2
 refine wp_loop_rounds 1 ?_
 rw [rounds_succ]
 go_wp2
 go_end0
 exact ⟨rfl,rfl⟩
set_option maxHeartbeats 1000000 in
theorem Ywn (u:Value) (w:World):Calls Tryz.prog 170 #[.slice none 0 0, .int .i64 0, .int .i64 0,u] w fun e w'=>e = .returned (.tuple #[])∧w'=w:=by
 go_enter Tryz.func170,Tryz.ntmps170
 go_wp2
 refine wp_loop_rounds 1 ?_
 rw [rounds_succ]
 go_wp2_with (go_at_call 206;refine (Yvn _).mono ?_;rintro e w' ⟨rfl,rfl⟩)
 refine bodyPost_ret (results_none rfl _ _ _) rfl ⟨rfl,rfl⟩
set_option maxHeartbeats 1000000 in
theorem Zc7 (w:World):Calls Tryz.prog 115 #[.slice none 0 0] w fun e w'=>e = .returned (.tuple #[])∧w'=w:=by
 go_enter Tryz.func115,Tryz.ntmps115
 go_wp2_with (first | (go_at_call 170;refine (Ywn _ _).mono ?_;rintro e w' ⟨rfl,rfl⟩) | go_in)
 go_end0
 exact ⟨rfl,rfl⟩
def Kl (l:List Int):List Value:=l.map (Value.int .i64)
theorem Zbr {n0 g:Nat} {w w':World} (h:BelowX ⟨w.heap.size,[g],[]⟩ w w') (hg:n0≤g) (hn:n0≤w.heap.size):Below n0 w w':=
 ⟨h.os,h.tape,h.output,h.size,fun k hk=>h.block k (Nat.lt_of_lt_of_le hk hn) (by simp;omega) (by simp)⟩
theorem Zd7 {w:World} {n0:Nat} {l:List Int} {g cap:Nat} {cur:Array Value} (hg:n0≤g) (hh:w.heap[g]? = some (.cells cur 3 (0,0))) (h1:l.length≤cap) (h2:cap≤maxLen) (h3:cur.size=cap)
  (hc:∀ (i:Nat) (x:Int),l[i]? = some x→cur[i]? = some (Value.int .i64 x)):w.ownsRow n0 3 1 (.slice (some ⟨g,0,none⟩) l.length cap) l.length (Kl l):=by
 refine ⟨by simp [Kl], .inr ⟨g,cap,cur,rfl,hg,hh,h1,h2,by omega,?_⟩⟩
 apply List.ext_getElem?
 intro i
 rw [AA,Nat.mul_one]
 unfold Kl
 rw [List.getElem?_map]
 split
 ·rename_i hi
  rw [Ap hi,Option.map_some]
  have:=hc i l[i] (Ap hi)
  simpa using this
 ·rename_i hi
  rw [List.getElem?_eq_none (by omega)]
  rfl
theorem s9 (n0:Nat) (v:Value) (l:List Int) (w:World) (hn:n0≤w.heap.size) (hl:l.length<4611686018427387904) (ho:w.ownsRow n0 3 1 v l.length (Kl l)):
  Calls Tryz.prog 115 #[v] w fun e w'=>e = .returned (.tuple #[])∧w'.ownsRow n0 3 1 v (l.mergeSort fun x y=>decide (x≤y)).length (Kl (l.mergeSort fun x y=>decide (x≤y)))∧Below n0 w w':=by
 obtain ⟨hlen,⟨rfl,h0⟩ | ⟨g,cap,cur,rfl,hg,hh,h1,h2,h3,Fc⟩⟩:=ho
 ·have:l=[]:=AI h0
  subst this
  refine (Zc7 w).mono ?_
  rintro e w' ⟨rfl,rfl⟩
  exact ⟨rfl,by simp [Kl];exact World.ownsRow_nil _ _ _ _,Below.refl _ _⟩
 ·have hci:∀ (i:Nat) (x:Int),l[i]? = some x→cur[i]? = some (Value.int .i64 x):=fun i x hi=>by
   have h5:(Kl l)[i]? = some (Value.int .i64 x):=by unfold Kl;rw [List.getElem?_map,hi];rfl
   rw [← Fc,AA] at h5
   split at h5
   ·simpa using h5
   ·cases h5
  have hH:Holds (Value.int .i64) w g 0 l.toArray:=by
   have:=holds_of (e:= .int .i64) (ok:=fun _ _=>False) (enc:=Value.int .i64) (fr:=fun x=>x) rfl (fun _=>rfl) hh (zT (e:= .int .i64) rfl (l:=l) (fun i x hi=>hci i x hi))
   rw [List.map_id'] at this
   exact this
  refine (Any.slices_Sort_int uE g 0 cap l w hH (Array.getElem?_eq_some_iff.1 hh).1 hl).mono ?_
  rintro e w' ⟨rfl,k,os,hw⟩
  have Xq:(l.mergeSort fun x y=>decide (x≤y)).length=l.length:=List.length_mergeSort _
  obtain ⟨hB,cur',h4,h5,h6⟩:=iZ (e:= .int .i64) (to:=fun x=>x) (d:=l.mergeSort fun x y=>decide (x≤y)) rfl (fun _=>rfl) hh (by omega) hw
  refine ⟨rfl,?_,Zbr hB hg hn⟩
  rw [List.map_id'] at h6
  have:=Zd7 (w:=w') (l:=l.mergeSort fun x y=>decide (x≤y)) hg h4 (by omega) h2 (by omega) fun i x hi=>zS (e:= .int .i64) (ok:=fun _ _=>False) rfl (h6 _) hi
  rw [Xq] at this ⊢
  exact this
theorem pS {ok0:Nat→Nat→Prop} (V:Value) (l:List Int) (w:World) (hr:RepD ok0 w (.sl (.int .i64)) l [V]) (hl:l.length≤4294967296):
  Calls Tryz.prog 114 #[V] w fun e w'=>∃ v,e = .returned v∧w'.ownsRow w.heap.size 3 1 v l.length (Kl l)∧Below w.heap.size w w':=by
 obtain ⟨a,n,cap,hv,CM,hn,CL,hc⟩:=hr
 cases hv
 cases a with
 | none=>
  refine (AnyE.slices_Clone_nil iT n cap w).mono ?_
  rintro e1 w' ⟨rfl,rfl⟩
  have h0:l=[]:=by
   cases l with
   | nil=>rfl
   | cons u us=>
    obtain ⟨A,hA,_⟩:=hc 0 u rfl
    cases hA
  subst h0
  exact ⟨_,rfl,World.ownsRow_nil _ _ _ _,Below.refl _ _⟩
 | some A=>
  have Ct:∀ (j:Nat) (u:Value),(Kl l)[j]? = some u→w.cell? (A.add j)=some u:=by
   intro j u hj
   unfold Kl at hj
   rw [List.getElem?_map] at hj
   cases hq:l[j]? with
   | none=>rw [hq] at hj;cases hj
   | some x=>
    rw [hq] at hj
    cases hj
    obtain ⟨A',DR,hs,ys,hy,B4⟩:=hc j x hq
    cases DR
    simp only [RepD] at hy
    subst hy
    rw [Hx A hs]
    have:=(B4 0 _ rfl).2
    simpa [Ty.sz] using this
  have Fp:n*8≤140737488355328:=by
   have:l.length=n:=CM
   omega
  have Ug:l.length=n:=CM
  refine (s8 iT Tryz.t3 _ 1 8 (by kernel_rfl) rfl rfl rfl (by kernel_rfl) (by decide) Tryz.sizeOf3 A n cap (Kl l) w (by simp [Kl,Ug]) (by omega) Fp Ct ?_).mono ?_
  ·intro u hu
   unfold Kl at hu
   obtain ⟨x,_,rfl⟩:=List.mem_map.1 hu
   rfl
  ·rintro e1 w' ⟨v',rfl,Ej,_,Dz⟩
   exact ⟨v',rfl,by rw [Ug];exact Ej,Dz⟩
theorem OK {ok0:Nat→Nat→Prop} {w w':World} {t:Ty} {x:t.D} {cs:List Value} (h:RepD ok0 w t x cs) (BE:∀ b o,ok0 b o→b<w.heap.size) (hb:Below w.heap.size w w'):RepD ok0 w' t x cs:=
 h.mono fun b o hk=>⟨hk,hb.cell (p:=⟨b,o,none⟩) (BE b o hk)⟩
theorem zY {ok0:Nat→Nat→Prop} (V:Value) (l:List Int) (b:Bool) (w:World) {z:Nat} (hz:Lay.ok z w) (BE:∀ b o,ok0 b o→b<w.heap.size) (hr:RepD ok0 w (.sl (.int .i64)) l [V]) (hF:PV l=some b):
  Calls Tryz.prog 112 #[V, .func (.func 113) #[] #[]] w fun e w'=>e = .returned (.bool b)∧Below w.heap.size w w':=by
 have h:=Zhi [.dat (.sl (.int .i64)) l [], .fn 113 []] _ b rfl hF ok0 w [V, .func (.func 113) #[] #[]] [] [] ⟨z,hz,by simp,by simp⟩ (fun b o hb=>⟨BE b o hb,by simp,by simp⟩) List.nodup_nil (by simp) ⟨fun i j b u u' h=>by simp at h,fun b u h=>by simp at h⟩
  ⟨[],[],⟨⟨[V],hr,rfl⟩,rfl,rfl⟩,[],[],⟨⟨[],rfl,trivial⟩,rfl,rfl⟩,rfl,rfl⟩
 refine h.mono ?_
 rintro e w' ⟨v,rfl,hb,ρ,hρ,_,_,hr⟩
 obtain ⟨us,⟨cs,h1,h2⟩,rfl⟩:=vc (rs:=[(.bool,[])]) (y:=b) hr
 simp only [RepD] at h2
 subst h2
 subst h1
 exact ⟨rfl,hb.below⟩
end Go.Proofs.YtclpadlpcfnfmaaGreat.Am
end

section
namespace Go.Proofs.YtclpadlpcfnfmaaGreat.Am
open Go.AM Go.AM.Pure Go.RowKit Go.Shelf Go.Lib
set_option maxRecDepth 100000
open Go.Proofs
def Le (l:List Int) (k:Nat):List (Int×Int):=(l.take k).foldl (fun a n=>KZ a (n,n+1)) []
theorem eW (l:List Int) {k:Nat} (h:k<l.length):Le l (k+1)=KZ (Le l k) (l[k],l[k]+1):=by
 unfold Le
 rw [List.take_succ_eq_append_getElem h,List.foldl_append]
 rfl
theorem Zz6 (l:List (Int×Int)) (s:Int×Int):KZ l s≠[]:=by
 rcases List.eq_nil_or_concat l with rfl | ⟨p,k,rfl⟩
 ·rw [qV];simp
 ·rw [List.concat_eq_append,eX]
  split <;> simp
theorem Znv (l:List (Int×Int)) (s:Int×Int):(KZ l s).length≤l.length+1:=by
 rcases List.eq_nil_or_concat l with rfl | ⟨p,k,rfl⟩
 ·rw [qV];simp
 ·rw [List.concat_eq_append,eX]
  split <;> simp
theorem Za7 (l:List Int) (k:Nat):(Le l k).length≤k:=by
 induction k with
 | zero=>simp [Le]
 | succ k ih=>
  by_cases h:k<l.length
  ·rw [eW l h]
   have:=Znv (Le l k) (l[k],l[k]+1)
   omega
  ·unfold Le at ih ⊢
   rw [AF (by omega)] at ih ⊢
   omega
def Yt1 (n1:Nat) (w1:World) (l:List Int) (v i:Value) (wr:World):Prop:=
 ∃ k:Nat,k≤l.length∧i = .int .i64 k∧wr.ownsRow n1 67 2 v (Le l k).length (ID (Le l k))∧(Le l k=[]→v = .slice none 0 0)∧Below n1 w1 wr
def Yau (n0:Nat) (w:World) (l:List Int) (e:Ending) (w':World):Prop:=
 ∃ v,e = .returned (.tuple #[v, .int .i64 0])∧w'.ownsRow n0 67 2 v (Le l l.length).length (ID (Le l l.length))∧Below n0 w w'
theorem zW {w:World} {n0 n1:Nat} {T:TypeId} {sz n:Nat} {v:Value} {xs:List Value} (h:w.ownsRow n1 T sz v n xs) (hn:n0≤n1):w.ownsRow n0 T sz v n xs:=by
 obtain ⟨hl,h | ⟨g,cap,cur,hv,hg,r⟩⟩:=h
 ·exact ⟨hl, .inl h⟩
 ·exact ⟨hl, .inr ⟨g,cap,cur,hv,by omega,r⟩⟩
set_option maxHeartbeats 2000000 in
theorem Yu1 {ok0:Nat→Nat→Prop} (V:Value) (l S:List Int) (w:World) {z:Nat} (hz:Lay.ok z w) (BE:∀ b o,ok0 b o→b<w.heap.size) (hr:RepD ok0 w (.sl (.int .i64)) l [V]) (hF:PV l=some false)
  (hl:l.length≤4294967296) (hS:(l.mergeSort fun x y=>decide (x≤y))=S) (LP:∀ x∈S,0≤x∧x<65536):Calls Tryz.prog 63 #[V] w (Yau w.heap.size w S):=by
 have hSl:S.length≤4294967296:=by rw [← hS,List.length_mergeSort];exact hl
 have HS:=Lib.hid hS
 clear hS
 have HA:=Lib.hid LP
 clear LP
 go_enter Tryz.func63,Tryz.ntmps63
 go_wp2_with fail
 refine (zY V l false w hz BE hr hF).mono ?_
 rintro e w1 ⟨rfl,Gd⟩
 have Lk:=OK hr BE Gd
 go_wp2_with fail
 refine (pS V l w1 Lk hl).mono ?_
 rintro e w2 ⟨v2,rfl,UB,Da⟩
 go_wp2_with fail
 refine (s9 w1.heap.size v2 l w2 Da.size (by omega) UB).mono ?_
 rintro e w3 ⟨rfl,XN,hb3⟩
 rw [HS.out] at XN
 have Zfi:Below w.heap.size w w3:=Gd.trans ((Da.mono Gd.size).trans (hb3.mono Gd.size))
 have db:=Lib.hid Zfi
 clear hF hr Lk UB Gd Da hb3 Zfi hz BE
 obtain ⟨_,⟨rfl,h0⟩ | ⟨g,cap,cur,rfl,hg,hh,h1,h2,h3,Fc⟩⟩:=id XN
 ·have hS0:S=[]:=AI h0
  subst hS0
  clear XN
  go_wp2
  refine wp_loop_rounds 1 ?_
  rw [rounds_succ]
  go_wp2
  go_ret2
  exact ⟨_,rfl,World.ownsRow_nil _ _ _ _,db.out⟩
 ·have HO:=Lib.hid XN
  have hg3:g<w3.heap.size:=(Array.getElem?_eq_some_iff.1 hh).1
  unfold maxLen at h2
  clear hh Fc h3 XN
  go_wp2
  go_loopw [5,16] (fun v i wr=>Yt1 w3.heap.size w3 S v i wr) (fun _ i _=>S.length-(intOf i).toNat)
  case atStart=>exact ⟨0,Nat.zero_le _,rfl,World.ownsRow_nil _ _ _ _,fun _=>rfl,Below.refl _ _⟩
  case round=>
   obtain ⟨k,hk,rfl,Ej,Mz,Dz⟩:=hrel
   have HW:=Lib.hid Ej
   have HN:=Lib.hid Mz
   have HB:=Lib.hid Dz
   clear Ej Mz Dz
   by_cases AO:k<S.length
   ·obtain ⟨x,hx⟩:∃ x,S[k]=x:=⟨_,rfl⟩
    have EB:0≤x∧x<65536:=HA.out x (by rw [← hx];exact Aq _)
    obtain ⟨Ha,H9⟩:=EB
    have C8:wr.cell? ⟨g,k,none⟩=some (.int .i64 x):=(HB.out.cell (p:=⟨g,k,none⟩) hg3).trans (Tl HO.out k _ (by unfold Kl;rw [List.getElem?_map,Ap AO,hx];rfl)).1
    have HX:=Lib.hid hx
    clear hx
    have Oi:=Za7 S k
    go_wp2_with (go_at_call 116;refine (Zb7 w3.heap.size _ (Le S k) x (x+1) _ HB.out.size (by omega) (by omega) HW.out HN.out).mono ?_;rintro e w4 ⟨v4,rfl,ho4,hb4⟩;have HV:=Lib.hid ho4;clear ho4)
    go_roundw
    case rel=>exact ⟨k+1,by omega,by go_num,by rw [eW S AO,HX.out];exact HV.out,fun h=>by rw [eW S AO] at h;exact absurd h (Zz6 _ _),HB.out.trans hb4⟩
    case measure=>simp [intOf];omega
   ·obtain rfl:k=S.length:=by omega
    go_wp2
    go_ret2
    exact ⟨_,rfl,zW HW.out db.out.size,db.out.trans (HB.out.mono db.out.size)⟩
set_option maxHeartbeats 1000000 in
theorem Ybu {ok0:Nat→Nat→Prop} (V:Value) (l:List Int) (w:World) {z:Nat} (hz:Lay.ok z w) (BE:∀ b o,ok0 b o→b<w.heap.size) (hr:RepD ok0 w (.sl (.int .i64)) l [V]) (hF:PV l=some true):
  Calls Tryz.prog 63 #[V] w fun e w'=>e = .returned (.tuple #[.slice none 0 0, .int .i64 1])∧Below w.heap.size w w':=by
 go_enter Tryz.func63,Tryz.ntmps63
 go_wp2_with fail
 refine (zY V l true w hz BE hr hF).mono ?_
 rintro e w1 ⟨rfl,Gd⟩
 clear hr BE hz hF
 go_wp2
 go_ret2
 exact ⟨rfl,Gd⟩
abbrev Pj:Ty:= .pair (.int .i64) (.int .i64)
theorem Zar {ok:Nat→Nat→Prop} {w:World} (l:List (Int×Int)):IE ok w Pj l (ID l):=by
 refine ⟨UG l,fun i x hi=>⟨[.int .i64 x.1, .int .i64 x.2],⟨[.int .i64 x.1],[.int .i64 x.2],rfl,rfl,rfl⟩,fun j u hj=>?_⟩⟩
 induction l generalizing i with
 | nil=>cases hi
 | cons a l ih=>
  cases i with
  | zero=>
   cases hi
   show (ID (x :: l))[0*2+j]? = some u
   rw [Nat.zero_mul,Au]
   match j,hj with
   | 0,hj=>exact hj
   | 1,hj=>exact hj
   | j+2,hj=>cases hj
  | succ i=>
   have:=ih i hi
   show (ID (a :: l))[(i+1)*2+j]? = some u
   rw [show (i+1)*2+j=(i*2+j)+1+1 by omega]
   exact this
theorem YL {ok0:Nat→Nat→Prop} {w w':World} {v:Value} {l:List (Int×Int)} {n:Int} (ho:w'.ownsRow w.heap.size 67 2 v l.length (ID l)):
  ∃ us,N5 (SJ ok0 w w') w' (IG [.sl Pj, .int .i64]) (l,n) us∧Ending.returned (.tuple #[v, .int .i64 n]) = .returned (QU us):=
 ⟨[v, .int .i64 n],⟨[v],[.int .i64 n],rfl,Zk (e:=Pj) ho (Zar l) fun b o h1 h2=> .inr ⟨h1,h2⟩,[.int .i64 n],rfl,rfl⟩,rfl⟩
@[reducible] def dU : AM.Spec := AM.spec [.val (.sl (.int .i64))] [(.sl (.pair (.int .i64) (.int .i64)), []), (.int .i64, [])] (fun x => Rz x.1)
theorem qw:AY Tryz.prog 63 dU:=
 Vx (ps:=[.sl (.int .i64)]) (rs:=[.sl Pj, .int .i64]) fun x y hF ok0 w vs z hz BE ha=>by
  obtain ⟨cs,r,rfl,hr,Ki⟩:=ha
  cases Ki
  have Co:∃ V,cs=[V]:=by
   obtain ⟨a,n,cap,h,_⟩:=hr
   exact ⟨_,h⟩
  obtain ⟨V,rfl⟩:=Co
  obtain ⟨l,u⟩:=x
  have hF:Rz l=some y:=hF
  unfold Rz at hF
  cases Nk:PV l with
  | none=>rw [Nk] at hF;cases hF
  | some b=>
   rw [Nk] at hF
   cases b with
   | true=>
    cases hF
    refine (Ybu V l w hz BE hr Nk).mono ?_
    rintro e w' ⟨rfl,hb⟩
    exact ⟨YL (l:=[]) (World.ownsRow_nil _ _ _ _),hb⟩
   | false=>
    dsimp only [Option.bind,cond] at hF
    cases hg:(decide (l.length≤4294967296) && l.all (fun n=>Bq 0 n && AS n 65536)) with
    | false=>rw [hg] at hF;cases hF
    | true=>
     rw [hg] at hF
     cases hF
     rw [Bool.and_eq_true,List.all_eq_true] at hg
     have hS:(l.mergeSort fun x y=>decide (x≤y)).length=l.length:=List.length_mergeSort _
     refine (Yu1 V l _ w hz BE hr Nk (Ak hg.1) rfl fun x hx=>?_).mono ?_
     ·have:=hg.2 x (List.mem_mergeSort.1 hx)
      rw [Bool.and_eq_true] at this
      exact ⟨Ak this.1,Ak this.2⟩
     ·rintro e w' ⟨v,rfl,ho,hb⟩
      unfold Le at ho
      rw [Ar] at ho
      exact ⟨YL ho,hb⟩
end Go.Proofs.YtclpadlpcfnfmaaGreat.Am
end

section
namespace Go.Proofs.YtclpadlpcfnfmaaGreat.Am
open Go.AM Go.AM.Pure Go.RowKit Go.Shelf Go.Lib
set_option maxRecDepth 100000
open Go.Proofs
def MA (N B:Nat) (l:List (Int×Int)) (W:World):Prop:=∃ v,Boxed W B 23 v∧W.ownsRow N 67 2 v l.length (ID l)∧(l=[]→v = .slice none 0 0)
def fN (N B:Nat) (l:List (Int×Int)) (W:World) (e:Ending) (W':World):Prop:=e = .returned (.bool true)∧MA N B l W'∧Below N W W'
set_option maxHeartbeats 1000000 in
theorem Zy6 (N B:Nat) (at_:Int) (W:World) (hN:N≤W.heap.size) (hB:N≤B) (h0:0≤at_) (h1:at_≤65600) (hv:Boxed W B 23 (.slice none 0 0)):
  Calls Tryz.prog 111 #[.int .i64 at_, .pointer (some ⟨B,0,none⟩)] W (fN N B [(at_,at_+1)] W):=by
 obtain ⟨i0,I0,JS,KI,L3⟩:=info_parts ZP
 have hc:=hv.cell
 have HR:=Lib.hid (World.ownsRow_nil W N 67 2)
 go_enter Tryz.func111,Tryz.ntmps111
 go_wp2_with (at_builtin;refine wpList_append_own _ rfl _ _ 23 rfl N 67 i0 (.agg #[.int .i64 0, .int .i64 0]) 2 16 Tryz.underlying23 I0 JS KI L3 rfl (by decide) _ _ _ rfl (HR.out.alloc _) ⟨W.heap.size,0,none⟩ 1 1 [.int .i64 at_, .int .i64 (at_+1)] rfl rfl (by exact Zl (T:=67) (y:=(0,0)) (heap_alloc_new W _)) Y4 (by unfold maxLen;omega) (by omega) (by simp;omega) ?_;intro v' w1 RZ LK _;obtain ⟨g',CT,rfl⟩:=ownsRow_succ RZ;obtain ⟨XL,XM,IA,LX,Da⟩:=hv.appended (by decide) HR.out hN hB RZ LK;have H8:=XL.cell;have nJ:=XL.frozen;have H2:=Lib.hid (And.intro XM (And.intro IA Da));clear XM IA LX Da RZ LK)
 go_ret
 exact ⟨rfl,⟨_,H2.out.1,H2.out.2.1,by simp⟩,H2.out.2.2⟩
set_option maxHeartbeats 1000000 in
theorem Zlv (N B g m cap:Nat) (aa b at_:Int) (xs:List Value) (W:World) (hN:N≤W.heap.size) (hB:N≤B) (h0:0≤at_) (h1:at_≤65600) (hm:m<4294967295) (Cb:¬ b=at_)
  (hv:Boxed W B 23 (.slice (some ⟨g,0,none⟩) (m+1) cap)) (BO:W.ownsRow N 67 2 (.slice (some ⟨g,0,none⟩) (m+1) cap) (m+1) (xs++[.int .i64 aa, .int .i64 b])) (Ol:xs.length=m*2):
  Calls Tryz.prog 111 #[.int .i64 at_, .pointer (some ⟨B,0,none⟩)] W fun e W'=>e = .returned (.bool true)∧(∃ v,Boxed W' B 23 v∧W'.ownsRow N 67 2 v (m+1+1) (xs++[.int .i64 aa, .int .i64 b]++[.int .i64 at_, .int .i64 (at_+1)]))∧Below N W W':=by
 obtain ⟨i0,I0,JS,KI,L3⟩:=info_parts ZP
 have C8:=(Tl BO (m*2+1) (.int .i64 b) (by rw [Aw (by omega),show m*2+1-xs.length=1 by omega];rfl)).1
 obtain ⟨Fa,JT⟩:m+1≤cap∧cap≤9223372036854775807:=by
  rcases BO.2 with ⟨h,_⟩ | ⟨g',_,_,h,_,_,h5,h6,_⟩
  ·cases h
  ·cases h;exact ⟨h5,h6⟩
 have h2:(0:Int)≤(m:Int):=by omega
 have h3:(m:Int)<(m:Int)+1:=by omega
 have h4:m+1≤4294967296:=by omega
 have hc:=hv.cell
 have HR:=Lib.hid BO
 clear BO hm
 go_enter Tryz.func111,Tryz.ntmps111
 go_wp2_with (at_builtin;refine wpList_append_own _ rfl _ _ 23 rfl N 67 i0 (.agg #[.int .i64 0, .int .i64 0]) 2 16 Tryz.underlying23 I0 JS KI L3 rfl (by decide) _ _ _ rfl (HR.out.alloc _) ⟨W.heap.size,0,none⟩ 1 1 [.int .i64 at_, .int .i64 (at_+1)] rfl rfl (by exact Zl (T:=67) (y:=(0,0)) (heap_alloc_new W _)) Y4 (by unfold maxLen;omega) (by omega) (by simp;omega) ?_;intro v' w1 RZ LK _;obtain ⟨g',CT,rfl⟩:=ownsRow_succ RZ;obtain ⟨XL,XM,IA,LX,Da⟩:=hv.appended (by decide) HR.out hN hB RZ LK;have H8:=XL.cell;have nJ:=XL.frozen;have H2:=Lib.hid (And.intro XM (And.intro IA Da));clear XM IA LX Da RZ LK)
 go_ret
 exact ⟨rfl,⟨_,H2.out.1,H2.out.2.1⟩,H2.out.2.2⟩
set_option maxHeartbeats 1000000 in
theorem Zmv (N B g m cap:Nat) (aa at_:Int) (xs:List Value) (W:World) (hN:N≤W.heap.size) (hB:N≤B) (h0:0≤at_) (h1:at_≤65600) (hm:m<4294967295)
  (hv:Boxed W B 23 (.slice (some ⟨g,0,none⟩) (m+1) cap)) (BO:W.ownsRow N 67 2 (.slice (some ⟨g,0,none⟩) (m+1) cap) (m+1) (xs++[.int .i64 aa, .int .i64 at_])) (Ol:xs.length=m*2):
  Calls Tryz.prog 111 #[.int .i64 at_, .pointer (some ⟨B,0,none⟩)] W fun e W'=>e = .returned (.bool true)∧(∃ v,Boxed W' B 23 v∧W'.ownsRow N 67 2 v (m+1) (xs++[.int .i64 aa, .int .i64 (at_+1)]))∧Below N W W':=by
 obtain ⟨C8,Yw5⟩:=Tl BO (m*2+1) (.int .i64 at_) (by rw [Aw (by omega),show m*2+1-xs.length=1 by omega];rfl)
 obtain ⟨Fa,JT,hg⟩:m+1≤cap∧cap≤9223372036854775807∧N≤g:=by
  rcases BO.2 with ⟨h,_⟩ | ⟨g',_,_,h,hg,_,h5,h6,_⟩
  ·cases h
  ·cases h;exact ⟨h5,h6,hg⟩
 have Cb:=hv.not_row (by decide) BO
 have h2:(0:Int)≤(m:Int):=by omega
 have h3:(m:Int)<(m:Int)+1:=by omega
 have h4:m+1≤4294967296:=by omega
 have hc:=hv.cell
 have HR:=Lib.hid BO
 have HB:=Lib.hid hv
 have HE:=Lib.hid Cb
 clear BO hm hv Cb
 go_enter Tryz.func111,Tryz.ntmps111
 go_wp2
 go_ret
 refine ⟨rfl,⟨_,?_,ve HR.out Ol⟩,(Below.refl N W).setCell (p:=⟨g,m*2+1,none⟩) hg _⟩
 exact (Below.heap_setCell W ⟨g,m*2+1,none⟩ _ B (fun e=>HE.out (by rw [e];rfl))).trans HB.out
theorem Y5 (l:List (Int×Int)) (k:Int×Int) (n:Int):IL (l++[k]) n=if k.2=n then l++[(k.1,n+1)] else l++[k]++[(n,n+1)]:=by
 unfold IL
 rw [show (l++[k]).getLast? = some k by simp]
 dsimp only
 by_cases h:k.2=n
 ·rw [if_pos h]
  simp [AR,h]
 ·rw [if_neg h,show AR k.2 n=false from beq_false_of_ne h]
  rfl
theorem Yun (l:List (Int×Int)) (n:Int):IL l n≠[]:=by
 rcases List.eq_nil_or_concat l with rfl | ⟨p,k,rfl⟩
 ·simp [IL]
 ·rw [List.concat_eq_append,Y5]
  split <;> simp
theorem Zv6 (l:List (Int×Int)) (n:Int):(IL l n).length≤l.length+1:=by
 rcases List.eq_nil_or_concat l with rfl | ⟨p,k,rfl⟩
 ·simp [IL]
 ·rw [List.concat_eq_append,Y5]
  split <;> simp
theorem Zx6 (N B:Nat) (l:List (Int×Int)) (at_:Int) (W:World) (hN:N≤W.heap.size) (hB:N≤B) (h0:0≤at_) (h1:at_≤65600) (hm:l.length≤4294967295) (hC:MA N B l W):
  Calls Tryz.prog 111 #[.int .i64 at_, .pointer (some ⟨B,0,none⟩)] W (fN N B (IL l at_) W):=by
 obtain ⟨v,hv,BO,Mz⟩:=hC
 rcases List.eq_nil_or_concat l with rfl | ⟨pre,k,rfl⟩
 ·rw [Mz rfl] at hv
  exact Zy6 N B at_ W hN hB h0 h1 hv
 ·rw [List.concat_eq_append] at *
  rw [Ae,PW] at BO
  rw [Ae] at hm
  simp only [AG] at BO hm
  have hvf:∃ g cap,v = .slice (some ⟨g,0,none⟩) (pre.length+1) cap:=by
   rcases BO.2 with ⟨_,h⟩ | ⟨g,cap,_,h,_⟩
   ·omega
   ·exact ⟨g,cap,h⟩
  obtain ⟨g,cap,rfl⟩:=hvf
  unfold fN
  have Cb:=Yun (pre++[k]) at_
  by_cases h:k.2=at_
  ·rw [Y5,if_pos h] at Cb ⊢
   subst h
   refine (Zmv N B g pre.length cap k.1 k.2 (ID pre) W hN hB h0 h1 (by omega) hv BO (UG pre)).mono ?_
   rintro e W' ⟨he,⟨v',Ho,ho⟩,hb⟩
   refine ⟨he,⟨v',Ho,?_,fun h=>absurd h Cb⟩,hb⟩
   rw [PW,Ae]
   exact ho
  ·rw [Y5,if_neg h] at Cb ⊢
   refine (Zlv N B g pre.length cap k.1 k.2 at_ (ID pre) W hN hB h0 h1 (by omega) h hv BO (UG pre)).mono ?_
   rintro e W' ⟨he,⟨v',Ho,ho⟩,hb⟩
   refine ⟨he,⟨v',Ho,?_,fun h=>absurd h Cb⟩,hb⟩
   rw [PW,PW,Ae,Ae]
   exact ho
end Go.Proofs.YtclpadlpcfnfmaaGreat.Am
end

section
namespace Go.Proofs.YtclpadlpcfnfmaaGreat.Am
open Go.AM Go.AM.Pure Go.RowKit Go.Shelf Go.Lib
set_option maxRecDepth 100000
open Go.Proofs
theorem ov:∀ {n:Nat} {w b:Int} {l:List Int},Fk n w b=some l→Fk (n+1) w b=some l
 | 0,_,_,_,h=>by cases h
 | n+1,w,b,l,h=>by
  have h':=h
  unfold Fk at h'
  show (Ny w b).bind _=some l
  cases hc:Ny w b with
  | none=>rw [hc] at h';cases h'
  | some c=>
   rw [hc] at h'
   dsimp only [Option.bind] at h' ⊢
   cases h1:AS c 0 with
   | true=>rw [h1] at h';exact h'
   | false=>
    rw [h1] at h'
    cases h2:AS c 64 with
    | false=>rw [h2] at h';cases h'
    | true=>
     rw [h2] at h'
     dsimp only [cond] at h' ⊢
     cases h3:Fk n w (c+1) with
     | none=>rw [h3] at h';cases h'
     | some r=>
      rw [h3] at h'
      rw [ov h3]
      exact h'
theorem Zeo {n m:Nat} {w b:Int} {l:List Int} (h:Fk n w b=some l) (hm:n≤m):Fk m w b=some l:=by
 induction hm with
 | refl=>exact h
 | step _ ih=>exact ov ih
def Ch (w b:Int) (rest:List Int):Prop:=(rest=[]∧b<0)∨∃ n RX,n≤70∧rest=b :: RX∧0≤b∧b<64∧Fk n w (b+1)=some RX
theorem bG {n:Nat} {w b0:Int} {l:List Int} (h:Fk n w b0=some l) (hn:n≤70):∃ c,Ny w b0=some c∧Ch w c l:=by
 cases n with
 | zero=>cases h
 | succ n=>
  unfold Fk at h
  cases hc:Ny w b0 with
  | none=>rw [hc] at h;cases h
  | some c=>
   rw [hc] at h
   dsimp only [Option.bind] at h
   refine ⟨c,rfl,?_⟩
   cases h1:AS c 0 with
   | true=>
    rw [h1] at h
    cases h
    exact .inl ⟨rfl,Ak h1⟩
   | false=>
    rw [h1] at h
    cases h2:AS c 64 with
    | false=>rw [h2] at h;cases h
    | true=>
     rw [h2] at h
     dsimp only [cond] at h
     cases h3:Fk n w (c+1) with
     | none=>rw [h3] at h;cases h
     | some r=>
      rw [h3] at h
      cases h
      have:=of_decide_eq_false h1
      exact .inr ⟨n,r,by omega,rfl,by omega,Ak h2,h3⟩
noncomputable def bH (w b:Int):Nat:=if b<0 then 0 else ((Fk 70 w (b+1)).getD []).length+1
theorem Y3 {w b:Int} {rest:List Int} (h:Ch w b rest):bH w b=rest.length:=by
 unfold bH
 rcases h with ⟨rfl,h⟩ | ⟨n,RX,hn,rfl,h0,_,h1⟩
 ·rw [if_pos h];rfl
 ·rw [if_neg (by omega),Zeo h1 hn]
  rfl
def fold (l:List Int):List (Int×Int):=l.foldl IL []
theorem qU (l:List Int) (x:Int):fold (l++[x])=IL (fold l) x:=by unfold fold;rw [List.foldl_append];rfl
theorem Zkv (l:List Int):∀ n,l.length=n→(fold l).length≤n:=by
 intro n
 induction n generalizing l with
 | zero=>intro h;rw [AI h];exact Ah _
 | succ n ih=>
  intro h
  rcases List.eq_nil_or_concat l with rfl | ⟨p,x,rfl⟩
  ·cases h
  ·rw [List.concat_eq_append] at h ⊢
   rw [qU]
   have:=Zv6 (fold p) x
   have:=ih p (by simpa using h)
   omega
theorem Zw6 (l:List Int):(fold l).length≤l.length:=Zkv l _ rfl
def Ht (ws:List Int) (k:Nat):List Int:=(List.range k).flatMap fun j=>((Fk 70 (ws.getD j 0) 0).getD []).map fun b=>64*(j:Int)+b
theorem Tk (ws:List Int) (k:Nat):Ht ws (k+1)=Ht ws k++((Fk 70 (ws.getD k 0) 0).getD []).map fun b=>64*(k:Int)+b:=by
 unfold Ht
 rw [List.range_succ,List.flatMap_append]
 simp
theorem Yyt (ws:List Int) {k n:Nat} (h:k≤n):(Ht ws k).length≤(Ht ws n).length:=by
 induction h with
 | refl=>exact Ah _
 | step _ ih=>rw [Tk,Ae];omega
theorem Y2 (w b c:Int) (W:World) (hF:Ny w b=some c):Calls Tryz.prog 85 #[.int .i64 w, .int .i64 b] W fun e W'=>e = .returned (.int .i64 c)∧Below W.heap.size W W':=by
 have hz:Lay.ok 0 W:=⟨rfl,Nat.zero_le _⟩
 refine (Tv (ps:=[.int .i64, .int .i64]) (rs:=[(.int .i64,[])]) (x:=(w,b,())) (y:=c) (F:=fun x=>Ny x.1 x.2.1) Zfo hF (ok0:=fun _ _=>False) (vs:=[.int .i64 w, .int .i64 b]) hz (fun _ _ h=>h.elim) ⟨[.int .i64 w],_,rfl,rfl,[.int .i64 b],_,rfl,rfl,rfl⟩).mono ?_
 rintro e W' ⟨⟨us,⟨cs,h1,h2⟩,rfl⟩,hb⟩
 simp only [RepD] at h2
 subst h2
 subst h1
 exact ⟨rfl,hb⟩
theorem gq {ok0:Nat→Nat→Prop} {w:World} {N:Nat} {ws:List Int} {V:Value} (h:RepD ok0 w (.sl (.int .i64)) ws [V]) (BE:∀ b o,ok0 b o→b<N):
  (ws=[]∧∃ a cap,V = .slice a 0 cap)∨∃ b off cap,V = .slice (some ⟨b,off,none⟩) ws.length cap∧ws.length≤cap∧cap≤9223372036854775807∧b<N∧∀ (k:Nat),k<ws.length→w.cell? ⟨b,off+k,none⟩=some (.int .i64 (ws.getD k 0)):=by
 obtain ⟨a,n,cap,hv,CM,hn,CL,hc⟩:=h
 cases hv
 have Ug:ws.length=n:=CM
 subst Ug
 cases ws with
 | nil=>exact .inl ⟨rfl,a,cap,rfl⟩
 | cons u us=>
  obtain ⟨A,hA,hs,ys,hy,B4⟩:=hc 0 u rfl
  cases hA
  simp only [RepD] at hy
  subst hy
  obtain ⟨Ab,Ao,As⟩:=A
  dsimp only at hs
  subst hs
  refine .inr ⟨Ab,Ao,cap,rfl,hn,CL,BE _ _ (B4 0 _ rfl).1,fun k hk=>?_⟩
  have hx:(u :: us)[k]? = some ((u :: us).getD k 0):=by
   rw [Ax,Ap hk];rfl
  obtain ⟨A',DR,_,ys,hy,Yd5⟩:=hc k _ hx
  cases DR
  simp only [RepD] at hy
  subst hy
  have:=(Yd5 0 _ rfl).2
  simpa [Ty.sz] using this
theorem pV {N B:Nat} {l:List (Int×Int)} {W W':World} (h:MA N B l W) (hb:Below W.heap.size W W'):MA N B l W':=by
 obtain ⟨v,hv,ho,Mz⟩:=h
 refine ⟨v,(hb.block B hv.lt).trans hv,?_,Mz⟩
 obtain ⟨hl,h | ⟨g,cap,cur,hv,hg,hh,r⟩⟩:=ho
 ·exact ⟨hl, .inl h⟩
 ·exact ⟨hl, .inr ⟨g,cap,cur,hv,hg,(hb.block g (Array.getElem?_eq_some_iff.1 hh).1).trans hh,r⟩⟩
def fM (N B:Nat) (ps:List Int) (W:World) (e:Ending) (W':World):Prop:=e = .returned (.tuple #[])∧MA N B (fold ps) W'∧Below N W W'
def Yzt (N B:Nat) (ws:List Int) (W:World) (i:Value) (wr:World):Prop:=
 ∃ k:Nat,k≤ws.length∧i = .int .i64 k∧MA N B (fold (Ht ws k)) wr∧Below N W wr
def Ys1 (N B:Nat) (ws:List Int) (k:Nat) (W:World) (v:Value) (wr:World):Prop:=
 ∃ (b:Int) (done rest:List Int),v = .int .i64 b∧Fk 70 (ws.getD k 0) 0=some (done++rest)∧Ch (ws.getD k 0) b rest∧MA N B (fold (Ht ws k++done.map fun b=>64*(k:Int)+b)) wr∧Below N W wr
set_option maxHeartbeats 2000000 in
theorem Zhv (N B b off cap:Nat) (ws:List Int) (W:World) (hN:N≤W.heap.size) (hB:N≤B) (hl:ws.length≤1024) (Fa:ws.length≤cap) (JT:cap≤9223372036854775807) (hb:b<N)
  (hc:∀ (k:Nat),k<ws.length→W.cell? ⟨b,off+k,none⟩=some (.int .i64 (ws.getD k 0))) (K0:∀ k,k<ws.length→∃ bs,Fk 70 (ws.getD k 0) 0=some bs) (Ek:(Ht ws ws.length).length≤4294967295) (hC:MA N B [] W):
  Calls Tryz.prog 110 #[.slice (some ⟨b,off,none⟩) ws.length cap, .func (.func 111) #[] #[.pointer (some ⟨B,0,none⟩)]] W (fM N B (Ht ws ws.length) W):=by
 have HC:=Lib.hid hc
 have HB:=Lib.hid K0
 have H0:=Lib.hid hC
 clear hc K0 hC
 go_enter Tryz.func110,Tryz.ntmps110
 go_wp2
 go_loopw [9] (fun i wr=>Yzt N B ws W i wr) (fun i _=>ws.length-(intOf i).toNat)
 case atStart=>exact ⟨0,Nat.zero_le _,rfl,H0.out,Below.refl _ _⟩
 case round=>
  obtain ⟨k,hk,rfl,RY,Dz⟩:=hrel
  have HK:=Lib.hid RY
  have HL:=Lib.hid Dz
  clear RY Dz
  by_cases AO:k<ws.length
  ·obtain ⟨x,hx⟩:∃ x,ws.getD k 0=x:=⟨_,rfl⟩
   obtain ⟨bs,DK⟩:=HB.out k AO
   obtain ⟨c,Lh,JU⟩:=bG DK (Ah _)
   have C8:wr.cell? ⟨b,off+k,none⟩=some (.int .i64 x):=by rw [← hx];exact (HL.out.cell (p:=⟨b,off+k,none⟩) hb).trans (HC.out k AO)
   rw [hx] at Lh
   have HX:=Lib.hid hx
   have H1:=Lib.hid Lh
   have H2:=Lib.hid JU
   have H3:=Lib.hid DK
   clear hx Lh JU DK
   go_wp2_with (go_at_call 85;refine (Y2 x 0 c _ H1.out).mono ?_;rintro e w2 ⟨rfl,Da⟩;have H4:=Lib.hid Da;clear Da)
   have HZ:Below N W w2:=HL.out.trans (H4.out.mono (Nat.le_trans hN HL.out.size))
   have H5:=Lib.hid HZ
   clear HZ
   obtain ⟨wo,da⟩:∃ wo:World,wo=w2:=⟨_,rfl⟩
   go_loopw [6] (fun v wq=>Ys1 N B ws k W v wq) (fun v _=>bH x (intOf v))
   case atStart=>
    refine ⟨c,[],bs,rfl,?_,?_,?_,H5.out⟩
    ·exact H3.out
    ·exact H2.out
    ·simp only [List.map_nil,Ay]
     exact pV HK.out H4.out
   case round=>
    obtain ⟨d,done,rest,rfl,DK,JU,RY,Dz⟩:=hrel
    rw [HX.out] at DK JU
    have Se:=Y3 JU
    rcases JU with ⟨rfl,hd⟩ | ⟨n,RX,hn,rfl,h0,B1,JQ⟩
    ·have G1:=Lib.hid DK
     have G2:=Lib.hid RY
     have G3:=Lib.hid Dz
     clear DK RY Dz Se
     go_wp2
     go_roundw
     case rel=>
      refine ⟨k+1,by omega,by go_num,?_,G3.out⟩
      rw [Tk,HX.out,G1.out,Ay]
      exact G2.out
     case measure=>simp [intOf];omega
    ·have hlen:(fold (Ht ws k++done.map fun b=>64*(k:Int)+b)).length≤4294967295:=by
      have h1:=Zw6 (Ht ws k++done.map fun b=>64*(k:Int)+b)
      have h2:=Yyt ws (show k+1≤ws.length by omega)
      rw [Tk,HX.out,DK] at h2
      simp only [Ae,Ai,Option.getD_some,Aj] at h1 h2
      omega
     obtain ⟨c2,Kg,Sf⟩:=bG JQ hn
     have Xe:=Y3 Sf
     have Iv:=qU (Ht ws k++done.map fun b=>64*(k:Int)+b) (64*(k:Int)+d)
     have G1:=Lib.hid DK
     have G2:=Lib.hid RY
     have G3:=Lib.hid Dz
     have G4:=Lib.hid Kg
     have G5:=Lib.hid Sf
     have G6:=Lib.hid Se
     have G7:=Lib.hid Xe
     have G8:=Lib.hid Iv
     have G9:=Lib.hid hlen
     clear DK RY Dz Se JQ Kg Sf Xe Iv hlen da
     go_wp2_with (first
      | (go_at_call 111;refine (Zx6 N B _ (64*(k:Int)+d) _ (Nat.le_trans hN G3.out.size) hB (by omega) (by omega) G9.out G2.out).mono ?_;rintro e w5 ⟨rfl,hc5,Lq⟩;have F1:=Lib.hid hc5;have F2:=Lib.hid Lq;clear hc5 Lq)
      | (go_at_call 85;refine (Y2 x (d+1) c2 _ G4.out).mono ?_;rintro e w6 ⟨rfl,XJ⟩;have F3:=Lib.hid XJ;clear XJ))
     go_roundw
     case rel=>
      refine ⟨c2,done++[d],RX,rfl,?_,?_,?_,G3.out.trans (F2.out.trans (F3.out.mono (Nat.le_trans (Nat.le_trans hN G3.out.size) F2.out.size)))⟩
      ·rw [HX.out,G1.out,Al];rfl
      ·rw [HX.out];exact G5.out
      ·rw [AE,← Al]
       show MA N B (fold (_++[64*(k:Int)+d])) _
       rw [G8.out]
       exact pV F1.out F3.out
     case measure=>
      have e1:=G6.out
      have e2:=G7.out
      simp only [intOf]
      rw [e1,e2]
      simp
  ·obtain rfl:k=ws.length:=by omega
   go_wp2
   go_end0
   exact ⟨rfl,HK.out,HL.out⟩
end Go.Proofs.YtclpadlpcfnfmaaGreat.Am
end

section
namespace Go.Proofs.YtclpadlpcfnfmaaGreat.Am
open Go.AM Go.AM.Pure Go.RowKit Go.Shelf Go.Lib
set_option maxRecDepth 100000
open Go.Proofs
set_option maxHeartbeats 1000000 in
theorem Zgv (N B:Nat) (a:Option Addr) (cap:Nat) (W:World) (hC:MA N B [] W):
  Calls Tryz.prog 110 #[.slice a 0 cap, .func (.func 111) #[] #[.pointer (some ⟨B,0,none⟩)]] W (fM N B [] W):=by
 have H0:=Lib.hid hC
 clear hC
 go_enter Tryz.func110,Tryz.ntmps110
 go_wp2
 refine wp_loop_rounds 1 ?_
 rw [rounds_succ]
 go_wp2
 go_end0
 exact ⟨rfl,H0.out,Below.refl _ _⟩
theorem vd {ok0:Nat→Nat→Prop} (V:Value) (ws:List Int) (b:Bool) (w:World) (BE:∀ b o,ok0 b o→b<w.heap.size) (hr:RepD ok0 w (.sl (.int .i64)) ws [V]) (hF:Lx ws=some b):
  Calls Tryz.prog 109 #[V] w fun e w'=>e = .returned (.bool b)∧Below w.heap.size w w':=by
 refine (Tv (ps:=[.sl (.int .i64)]) (rs:=[(.bool,[])]) (x:=(ws,())) (y:=b) (F:=fun x=>Lx x.1) dN hF (vs:=[V]) (z:=0) ⟨rfl,Nat.zero_le _⟩ BE ⟨[V],_,rfl,hr,rfl⟩).mono ?_
 rintro e W' ⟨⟨us,⟨cs,h1,h2⟩,rfl⟩,hb⟩
 simp only [RepD] at h2
 subst h2
 subst h1
 exact ⟨rfl,hb⟩
theorem pU:∀ (ws:List Int) (k:Nat) (ps:List Int),LD (k:Int) ws=some ps→
  ps=((List.range ws.length).flatMap fun j=>((Fk 70 (ws.getD j 0) 0).getD []).map fun b=>64*((k+j:Nat):Int)+b)∧∀ j,j<ws.length→∃ bs,Fk 70 (ws.getD j 0) 0=some bs
 | [],k,ps,h=>by
  cases h
  exact ⟨rfl,fun j hj=>by cases hj⟩
 | w :: ws,k,ps,h=>by
  have h:(Fk 70 w 0).bind (fun bs=>(LD ((k:Int)+1) ws).bind fun r=>some (bs.map (fun b=>64*(k:Int)+b)++r))=some ps:=h
  cases h1:Fk 70 w 0 with
  | none=>rw [h1] at h;cases h
  | some bs=>
   rw [h1] at h
   dsimp only [Option.bind] at h
   cases h2:LD ((k:Int)+1) ws with
   | none=>rw [h2] at h;cases h
   | some r=>
    rw [h2] at h
    cases h
    obtain ⟨h3,h4⟩:=pU ws (k+1) r (by rw [← h2];rfl)
    refine ⟨?_,fun j hj=>?_⟩
    ·rw [Aj,List.range_succ_eq_map,List.flatMap_cons,List.flatMap_map,h3]
     congr 1
     ·show _=((Fk 70 w 0).getD []).map _
      rw [h1]
      rfl
     ·congr 1
      funext j
      show _=((Fk 70 (ws.getD j 0) 0).getD []).map _
      congr 1
      funext b
      congr 2
      push_cast
      omega
    ·cases j with
     | zero=>exact ⟨bs,h1⟩
     | succ j=>exact h4 j (by simpa using hj)
theorem zX {ws ps:List Int} (h:LD 0 ws=some ps):ps=Ht ws ws.length∧∀ j,j<ws.length→∃ bs,Fk 70 (ws.getD j 0) 0=some bs:=by
 obtain ⟨h1,h2⟩:=pU ws 0 ps h
 refine ⟨?_,h2⟩
 rw [h1]
 unfold Ht
 simp
theorem Zt6 {ok0:Nat→Nat→Prop} (N B:Nat) (V:Value) (ws ps:List Int) (W:World) (hN:N≤W.heap.size) (hB:N≤B) (hl:ws.length≤1024) (BE:∀ b o,ok0 b o→b<N) (hr:RepD ok0 W (.sl (.int .i64)) ws [V])
  (hp:LD 0 ws=some ps) (Ek:ps.length≤4294967295) (hC:MA N B [] W):Calls Tryz.prog 110 #[V, .func (.func 111) #[] #[.pointer (some ⟨B,0,none⟩)]] W (fM N B ps W):=by
 obtain ⟨rfl,K0⟩:=zX hp
 rcases gq hr BE with ⟨rfl,a,cap,rfl⟩ | ⟨b,off,cap,rfl,h1,h2,h3,h4⟩
 ·exact Zgv N B a cap W hC
 ·exact Zhv N B b off cap ws W hN hB hl h1 h2 h3 h4 K0 Ek hC
set_option maxHeartbeats 1000000 in
theorem Zu6 {ok0:Nat→Nat→Prop} (V:Value) (ws:List Int) (w:World) (BE:∀ b o,ok0 b o→b<w.heap.size) (hr:RepD ok0 w (.sl (.int .i64)) ws [V]) (hF:Lx ws=some false):
  Calls Tryz.prog 62 #[V] w fun e w'=>e = .returned (.tuple #[.slice none 0 0, .int .i64 1])∧Below w.heap.size w w':=by
 go_enter Tryz.func62,Tryz.ntmps62
 go_wp2_with fail
 refine (vd V ws false w BE hr hF).mono ?_
 rintro e w1 ⟨rfl,Gd⟩
 clear hr BE hF
 go_wp2
 go_ret2
 exact ⟨rfl,Gd⟩
def Ziv (n0:Nat) (w:World) (ps:List Int) (e:Ending) (w':World):Prop:=
 ∃ v,e = .returned (.tuple #[v, .int .i64 0])∧w'.ownsRow n0 67 2 v (fold ps).length (ID (fold ps))∧Below n0 w w'
set_option maxHeartbeats 1000000 in
theorem Zjv {ok0:Nat→Nat→Prop} (V:Value) (ws ps:List Int) (w:World) (BE:∀ b o,ok0 b o→b<w.heap.size) (hr:RepD ok0 w (.sl (.int .i64)) ws [V]) (hF:Lx ws=some true)
  (hl:ws.length≤1024) (hp:LD 0 ws=some ps) (Ek:ps.length≤4294967295):Calls Tryz.prog 62 #[V] w (Ziv w.heap.size w ps):=by
 go_enter Tryz.func62,Tryz.ntmps62
 go_wp2_with fail
 refine (vd V ws true w BE hr hF).mono ?_
 rintro e w1 ⟨rfl,Gd⟩
 have Lk:=OK (OK hr BE Gd) (w':=w1.alloc (.cells #[.slice none 0 0] 23)) (fun b o h=>Nat.lt_of_lt_of_le (BE b o h) Gd.size) ((Below.refl _ _).alloc (Ah _) _)
 have hC:MA w.heap.size w1.heap.size [] (w1.alloc (.cells #[.slice none 0 0] 23)):=⟨_,Boxed.new w1 23 _,World.ownsRow_nil _ _ _ _,fun _=>rfl⟩
 have HA:=Lib.hid (Zt6 w.heap.size w1.heap.size V ws ps _ (by simp;have:=Gd.size;omega) Gd.size hl BE Lk hp Ek hC)
 have H1:=Lib.hid Gd
 clear hr BE hF Lk hC Gd hp
 go_wp2_with fail
 refine HA.out.mono ?_
 rintro e w2 ⟨rfl,⟨v,hv,ho,_⟩,Da⟩
 have hc:=hv.cell
 have HO:=Lib.hid ho
 have H2:=Lib.hid Da
 clear ho Da hv
 go_wp2
 go_ret2
 exact ⟨v,rfl,HO.out,(H1.out.alloc H1.out.size _).trans H2.out⟩
@[reducible] def oe : AM.Spec := AM.spec [.val (.sl (.int .i64))] [(.sl (.pair (.int .i64) (.int .i64)), []), (.int .i64, [])] (fun x => UQ x.1)
theorem Zyk:AY Tryz.prog 62 oe:=
 Vx (ps:=[.sl (.int .i64)]) (rs:=[.sl Pj, .int .i64]) fun x y hF ok0 w vs z hz BE ha=>by
  obtain ⟨cs,r,rfl,hr,Ki⟩:=ha
  cases Ki
  have Co:∃ V,cs=[V]:=by
   obtain ⟨a,n,cap,h,_⟩:=hr
   exact ⟨_,h⟩
  obtain ⟨V,rfl⟩:=Co
  obtain ⟨l,u⟩:=x
  have hF:UQ l=some y:=hF
  unfold UQ at hF
  cases Nk:Lx l with
  | none=>rw [Nk] at hF;cases hF
  | some b=>
   rw [Nk] at hF
   cases b with
   | false=>
    cases hF
    refine (Zu6 V l w BE hr Nk).mono ?_
    rintro e w' ⟨rfl,hb⟩
    exact ⟨YL (l:=[]) (World.ownsRow_nil _ _ _ _),hb⟩
   | true=>
    dsimp only [Option.bind,cond] at hF
    cases hp:LD 0 l with
    | none=>rw [hp] at hF;cases hF
    | some ps=>
     rw [hp] at hF
     dsimp only at hF
     cases hg:(decide (l.length≤1024) && decide (ps.length≤4294967295)) with
     | false=>rw [hg] at hF;cases hF
     | true=>
      rw [hg] at hF
      cases hF
      rw [Bool.and_eq_true] at hg
      refine (Zjv V l ps w BE hr Nk (Ak hg.1) hp (Ak hg.2)).mono ?_
      rintro e w' ⟨v,rfl,ho,hb⟩
      exact ⟨YL ho,hb⟩
end Go.Proofs.YtclpadlpcfnfmaaGreat.Am
end
