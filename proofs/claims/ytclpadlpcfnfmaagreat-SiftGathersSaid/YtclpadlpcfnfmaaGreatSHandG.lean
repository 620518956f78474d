import Derived.RangeFuncNested
import Derived.RangeFuncBound
import Derived.RangeFuncCalls
import Derived.Shelf.RegionOpen
import Derived.Test.YtclpadlpcfnfmaaGreatSHandA
import Derived.Deep.RegionHeld3
section
/- The iterators over a list of places. (Xs .. values_stops: the worked proof of slices.Values, turned to this seat.) -/
namespace Go.Proofs.YtclpadlpcfnfmaaGreat.Am
open Go.AM Go.AM.Pure Go.RowKit Go.Shelf Go.Lib
open Go.Proofs
attribute [local go_sem] Oper.semAt_some
def upto {α:Type} (f:Nat→α) (k:Nat):List α:=(List.range k).map f
theorem PE {α:Type} (f:Nat→α) (k:Nat):upto f (k+1)=upto f k++[f k]:=by simp [upto,List.range_succ]
theorem kG {α:Type} (f:Nat→α) {k n:Nat} (h:k≤n):upto f k <+:upto f n:=by
 induction h with
 | refl=>exact List.prefix_refl _
 | step _ ih=>rw [PE];exact ih.trans (List.prefix_append _ _)
theorem gF (zs:List Int):upto (fun j=>zs[j]?.getD 0) zs.length=zs:=by
 apply List.ext_getElem
 ·simp [upto]
 ·intro i h1 h2
  simp [upto,h2]
set_option maxRecDepth 100000 in
set_option maxHeartbeats 2000000 in
theorem Xs (F:Fence) (n:Nat) (h7:F.fn 149) (hro:F.round=none) (hn:1≤n) (l Bs n₀ b off len cap:Nat) (zs:List Int) (hreach:len*8≤140737488351232) (hb:b<n₀) (J Jx:List Int→World→Prop)
  (hY:∀ pre x W,J pre W→pre++[x] <+:upto (fun j=>zs[j]?.getD 0) len→YieldAt F (n-1) Tryz.prog l #[.int .i64 x] W fun e W'=>
   (e = .returned (.bool true)∧J (pre++[x]) W'∧Below n₀ W W')∨(e = .returned (.bool false)∧Jx (pre++[x]) W'))
  (W:World) (hBs:W.cell? ⟨Bs,0,none⟩=some (.slice (some ⟨b,off,none⟩) len cap)) (hc:∀ j,j<len→W.cell? ⟨b,off+j,none⟩=some (.int .i64 (zs[j]?.getD 0))) (h0:J [] W):
  CallsIn F n Tryz.prog 149 #[.func (.yield l) #[] #[], .pointer (some ⟨Bs,0,none⟩)] W fun e W'=>(∃ v,e = .returned v)∧
   ((∃ ys,ys=upto (fun j=>zs[j]?.getD 0) len∧J ys W')∨(∃ pre,(∃ k,k≤len∧pre=upto (fun j=>zs[j]?.getD 0) k)∧Jx pre W')):=by
 refine callsIn_of_wp Tryz.func149 rfl h7 ?_ hro
 simp only [Tryz.ntmps149,List.size_toArray,List.length_cons,List.length_nil,Nat.reduceAdd,Nat.reduceSub,Array.replicate_succ,Array.replicate_zero,List.push_toArray,List.append_toArray,List.nil_append,List.cons_append]
 gi_wp2
 gi_loopw [7] (fun i wr=>∃ k:Nat,k≤len∧i = .int .i64 k∧J (upto (fun j=>zs[j]?.getD 0) k) wr∧Below n₀ W wr)
  (fun i _=>len-(intOf i).toNat)
 case atStart=>exact ⟨0,Nat.zero_le _,rfl,h0,Below.refl _ _⟩
 case round=>
  obtain ⟨k,hk,rfl,hJs,hnx⟩:=hrel
  have hcx:k<len→wr.cell? ⟨b,off+k,none⟩=some (.int .i64 (zs[k]?.getD 0)):=fun h=>(hnx.cell (p:=⟨b,off+k,none⟩) hb).trans (hc k h)
  by_cases hlt:k<len
  ·obtain ⟨fn,tmps,assign,body,hy,hR⟩:=hY _ (zs[k]?.getD 0) wr hJs (by rw [← PE];exact kG _ hlt)
   have hcx':=hcx hlt
   gi_wp2
   refine hR.mono ?_
   rintro e W3 (⟨rfl,hJ3,hk3⟩ | ⟨rfl,hJx3⟩)
   ·-- THE ROUND GOES ON
    gi_wp2
    go_roundw
    case rel=>exact ⟨k+1,by omega,by simp,by rw [PE];exact hJ3,hnx.trans hk3⟩
    case measure=>simp [intOf];omega
   ·gi_wp2
    refine bodyPost_ret (results_none rfl _ _ _) rfl ?_
    exact ⟨⟨_,rfl⟩, .inr ⟨_,⟨k+1,by omega,(PE _ _).symm⟩,hJx3⟩⟩
  ·obtain rfl:k=len:=by omega
   gi_wp2
   go_end0
   exact ⟨⟨_,rfl⟩, .inl ⟨_,rfl,hJs⟩⟩
theorem wC (zs:List Int) {k:Nat} (hk:k≤zs.length):upto (fun j=>zs[j]?.getD 0) k=zs.take k:=by
 apply List.ext_getElem
 ·simp [upto,hk]
 ·intro i h1 h2
  have:i<zs.length:=by simp [upto] at h1;omega
  simp [upto,this]
def Ints (n₀:Nat) (W:World) (sv:Value) (zs:List Int):Prop:=
 (sv = .slice none 0 0∧zs=[])∨∃ b off cap,sv = .slice (some ⟨b,off,none⟩) zs.length cap∧b<n₀∧∀ j,j<zs.length→W.cell? ⟨b,off+j,none⟩=some (.int .i64 (zs[j]?.getD 0))
theorem Ints.below {n₀:Nat} {A B:World} (h:Below n₀ A B) {sv:Value} {zs:List Int}:Ints n₀ A sv zs→Ints n₀ B sv zs
 | .inl e=> .inl e
 | .inr ⟨b,off,cap,e,hb,hc⟩=> .inr ⟨b,off,cap,e,hb,fun j hj=>(h.cell (p:=⟨b,off+j,none⟩) hb).trans (hc j hj)⟩
set_option maxHeartbeats 1000000 in
theorem wD (F:Fence) (n:Nat) (h5:F.fn 86) (hro:F.round=none) (a:Option Addr) (len cap:Nat) (w:World):
  CallsIn F n Tryz.prog 86 #[.slice a len cap] w fun e w'=>e = .returned (.func (.func 149) #[] #[.pointer (some ⟨w.heap.size,0,none⟩)])∧w'=w.alloc (.cells #[.slice a len cap] 29):=by
 refine callsIn_of_wp Tryz.func86 rfl h5 ?_ hro
 simp only [Tryz.ntmps86,List.size_toArray,List.length_cons,List.length_nil,Nat.reduceAdd,Nat.reduceSub,Array.replicate_succ,Array.replicate_zero,List.push_toArray,List.append_toArray,List.nil_append,List.cons_append]
 gi_wp2
 go_ret
 exact ⟨rfl,rfl⟩
end Go.Proofs.YtclpadlpcfnfmaaGreat.Am
end

section
namespace Go.Proofs.YtclpadlpcfnfmaaGreat.Am
open Go.AM Go.AM.Pure Go.RowKit Go.Shelf Go.Lib
open Go.Proofs
attribute [local go_sem] Oper.semAt_some
set_option maxRecDepth 100000
set_option maxHeartbeats 1000000 in
theorem Zgi (F:Fence) (n:Nat) (h42:F.fn 42) (h86:F.fn 86) (hro:F.round=none) (hn:2≤n) (a1 a2 a:Option Addr) (l1 l2 len c1 c2 cap:Nat) (w:World):
  CallsIn F n Tryz.prog 42 #[.agg #[.int .i64 3, .slice a1 l1 c1, .slice a2 l2 c2, .slice a len cap]] w fun e w'=>e = .returned (.func (.func 149) #[] #[.pointer (some ⟨w.heap.size+1,0,none⟩)])∧w'=(w.alloc (.cells #[.int .i64 3, .slice a1 l1 c1, .slice a2 l2 c2, .slice a len cap] 31)).alloc (.cells #[.slice a len cap] 29):=by
 refine callsIn_of_wp Tryz.func42 rfl h42 ?_ hro
 simp only [Tryz.ntmps42,List.size_toArray,List.length_cons,List.length_nil,Nat.reduceAdd,Nat.reduceSub,Array.replicate_succ,Array.replicate_zero,List.push_toArray,List.append_toArray,List.nil_append,List.cons_append]
 have h1:1≤n:=by omega
 gi_wp2_with (gi_at_call 86;refine (wD F (n-1) h86 hro _ _ _ _).mono ?_;rintro e w' ⟨rfl,rfl⟩)
 go_ret
 exact ⟨rfl,rfl⟩
set_option maxHeartbeats 1000000 in
theorem Zhi (F:Fence) (n:Nat) (h42:F.fn 42) (hro:F.round=none) (hn:2≤n) (a1 a2 a:Option Addr) (l1 l2 len c1 c2 cap:Nat) (w:World):
  CallsIn F n Tryz.prog 42 #[.agg #[.int .i64 2, .slice a1 l1 c1, .slice a2 l2 c2, .slice a len cap]] w fun e w'=>e = .returned (.func (.func 84) #[] #[.pointer (some ⟨w.heap.size,0,none⟩)])∧w'=w.alloc (.cells #[.int .i64 2, .slice a1 l1 c1, .slice a2 l2 c2, .slice a len cap] 31):=by
 refine callsIn_of_wp Tryz.func42 rfl h42 ?_ hro
 simp only [Tryz.ntmps42,List.size_toArray,List.length_cons,List.length_nil,Nat.reduceAdd,Nat.reduceSub,Array.replicate_succ,Array.replicate_zero,List.push_toArray,List.append_toArray,List.nil_append,List.cons_append]
 gi_wp2
 go_ret
 exact ⟨rfl,rfl⟩
set_option maxHeartbeats 1000000 in
theorem Zii (F:Fence) (n:Nat) (h42:F.fn 42) (hro:F.round=none) (hn:2≤n) (form:Int) (hf2:¬ form=2) (hf3:¬ form=3) (a1 a2 a:Option Addr) (l1 l2 len c1 c2 cap:Nat) (w:World):
  CallsIn F n Tryz.prog 42 #[.agg #[.int .i64 form, .slice a1 l1 c1, .slice a2 l2 c2, .slice a len cap]] w fun e w'=>e = .returned (.func (.func 87) #[] #[.pointer (some ⟨w.heap.size,0,none⟩)])∧w'=w.alloc (.cells #[.int .i64 form, .slice a1 l1 c1, .slice a2 l2 c2, .slice a len cap] 31):=by
 refine callsIn_of_wp Tryz.func42 rfl h42 ?_ hro
 simp only [Tryz.ntmps42,List.size_toArray,List.length_cons,List.length_nil,Nat.reduceAdd,Nat.reduceSub,Array.replicate_succ,Array.replicate_zero,List.push_toArray,List.append_toArray,List.nil_append,List.cons_append]
 gi_wp2
 go_ret
 exact ⟨rfl,rfl⟩
end Go.Proofs.YtclpadlpcfnfmaaGreat.Am
end

section
namespace Go.Proofs.YtclpadlpcfnfmaaGreat.Am
open Go.AM Go.AM.Pure Go.RowKit Go.Shelf Go.Lib
open Go.Proofs
attribute [local go_sem] Oper.semAt_some
set_option maxRecDepth 100000
theorem kF {A B:World} (h:Below A.heap.size A B):A.grownBy B none:=⟨h.os,h.tape,h.output,h.size,fun k hk _=>h.block k hk⟩
theorem Rz {β:Type} {n:Nat} {J:β→World→Prop} (hJ:AbidesFrom n J) {s:β} {A B:World} (h:J s A) (hb:Below A.heap.size A B):J s B:=hJ s A B none h (kF hb) (fun r e=>by cases e)
def Zvh1 (n₀:Nat) (ws:List Int) (J:List Int→World→Prop) (W:World) (i:Value) (wr:World):Prop:=
 ∃ k:Nat,k≤ws.length∧i = .int .i64 k∧J (plW ws k) wr∧Below n₀ W wr
def InJ (n₀:Nat) (ws:List Int) (k:Nat) (J:List Int→World→Prop) (W:World) (v:Value) (wr:World):Prop:=
 ∃ (b:Int) (done rest:List Int),v = .int .i64 b∧Dm 70 (ws.getD k 0) 0=some (done++rest)∧Ch (ws.getD k 0) b rest∧J (plW ws k++done.map fun b=>64*(k:Int)+b) wr∧Below n₀ W wr
def MB (ps:List Int) (J Jx:List Int→World→Prop) (e:Ending) (W':World):Prop:=
 (∃ v,e = .returned v)∧((∃ ys,ys=ps∧J ys W')∨(∃ pre,pre <+:ps∧Jx pre W'))
theorem sc (ws:List Int) {k n:Nat} (h:k≤n):plW ws k <+:plW ws n:=by
 induction h with
 | refl=>exact List.prefix_refl _
 | step _ ih=>rw [MC];exact ih.trans (List.prefix_append _ _)
theorem Zo1 (ws:List Int) {k:Nat} (hk:k<ws.length) {done rest:List Int} {d:Int} (h:Dm 70 (ws.getD k 0) 0=some (done++d :: rest)):
  (plW ws k++done.map (fun b=>64*(k:Int)+b))++[64*(k:Int)+d] <+:plW ws ws.length:=by
 refine List.IsPrefix.trans ?_ (sc ws (show k+1≤ws.length by omega))
 rw [MC,h]
 simp
set_option maxHeartbeats 4000000 in
theorem wB (n:Nat) (hn:1≤n) (l Bx n₀ b off cap:Nat) (ws:List Int) (hl:ws.length≤1024) (hcap:ws.length≤cap) (hcm:cap≤9223372036854775807) (hb:b<n₀) (J Jx:List Int→World→Prop)
  (hbits:∀ k,k<ws.length→∃ bs,Dm 70 (ws.getD k 0) 0=some bs)
  (hY:∀ pre x W,J pre W→pre++[x] <+:plW ws ws.length→YieldAt Fence.wide (n-1) Tryz.prog l #[.int .i64 x] W fun e W'=>
   (e = .returned (.bool true)∧J (pre++[x]) W'∧Below n₀ W W')∨(e = .returned (.bool false)∧Jx (pre++[x]) W'))
  (W:World) (hn0:n₀≤W.heap.size) (hJ:AbidesFrom W.heap.size J) (hBx:W.cell? ⟨Bx,2,none⟩=some (.slice (some ⟨b,off,none⟩) ws.length cap))
  (hc:∀ k,k<ws.length→W.cell? ⟨b,off+k,none⟩=some (.int .i64 (ws.getD k 0))) (h0:J [] W):
  CallsIn Fence.wide n Tryz.prog 84 #[.func (.yield l) #[] #[], .pointer (some ⟨Bx,0,none⟩)] W (MB (plW ws ws.length) J Jx):=by
 have hro:Fence.wide.round=none:=rfl
 have HC:=Lib.hid hc
 have HB:=Lib.hid hbits
 have HY:=Lib.hid hY
 have HJ:=Lib.hid hJ
 clear hc hbits hY hJ
 refine callsIn_of_wp Tryz.func84 rfl trivial ?_ hro
 simp only [Tryz.ntmps84,List.size_toArray,List.length_cons,List.length_nil,Nat.reduceAdd,Nat.reduceSub,Array.replicate_succ,Array.replicate_zero,List.push_toArray,List.append_toArray,List.nil_append,List.cons_append]
 gi_wp2
 gi_loopw [9] (fun i wr=>Zvh1 n₀ ws J W i wr) (fun i _=>ws.length-(intOf i).toNat)
 case atStart=>exact ⟨0,Nat.zero_le _,rfl,h0,Below.refl _ _⟩
 case round=>
  obtain ⟨k,hk,rfl,hJs,hbel⟩:=hrel
  have HK:=Lib.hid hJs
  have HL:=Lib.hid hbel
  clear hJs hbel
  by_cases hlt:k<ws.length
  ·obtain ⟨x,hx⟩:∃ x,ws.getD k 0=x:=⟨_,rfl⟩
   obtain ⟨bs,hbs⟩:=HB.out k hlt
   obtain ⟨c,hn1,hch⟩:=db hbs (Nat.le_refl _)
   have hcell:wr.cell? ⟨b,off+k,none⟩=some (.int .i64 x):=by rw [← hx];exact (HL.out.cell (p:=⟨b,off+k,none⟩) hb).trans (HC.out k hlt)
   rw [hx] at hn1
   have HX:=Lib.hid hx
   have H1:=Lib.hid hn1
   have H2:=Lib.hid hch
   have H3:=Lib.hid hbs
   clear hx hn1 hch hbs
   gi_wp2_with (refine ⟨trivial,?_⟩;gi_at_call 85;refine (callsIn_wide.2 (RB x 0 c _ H1.out)).mono ?_;rintro e w2 ⟨rfl,hb2⟩;have H4:=Lib.hid hb2;clear hb2)
   have H5:Hid (Below n₀ W w2):=Lib.hid (HL.out.trans (H4.out.mono (Nat.le_trans hn0 HL.out.size)))
   have H6:Hid (J (plW ws k) w2):=Lib.hid (Rz (n:=W.heap.size) HJ.out HK.out H4.out)
   obtain ⟨wo,hwo⟩:∃ wo:World,wo=w2:=⟨_,rfl⟩
   gi_loopw [5] (fun v wq=>InJ n₀ ws k J W v wq) (fun v _=>dc x (intOf v))
   case atStart=>
    refine ⟨c,[],bs,rfl,H3.out,H2.out,?_,H5.out⟩
    simp only [List.map_nil,List.append_nil]
    exact H6.out
   case round=>
    obtain ⟨d,done,rest,rfl,hbs,hch,hJ2,hbel⟩:=hrel
    rw [HX.out] at hch
    have hchl:=RA hch
    rcases hch with ⟨rfl,hd⟩ | ⟨m,rest',hm,rfl,h0d,h64,hnx⟩
    ·have G1:=Lib.hid hbs
     have G2:=Lib.hid hJ2
     have G3:=Lib.hid hbel
     clear hbs hJ2 hbel hchl hwo
     gi_wp2
     go_roundw
     case rel=>
      refine ⟨k+1,by omega,by go_num,?_,G3.out⟩
      rw [MC,G1.out,List.append_nil]
      exact G2.out
     case measure=>simp [intOf];omega
    ·have hpre:=Zo1 ws hlt hbs
     obtain ⟨c2,hn2,hch2⟩:=db hnx hm
     have hcl2:=RA hch2
     obtain ⟨fn,tmps,assign,body,hy,hR⟩:=HY.out _ (64*(k:Int)+d) _ hJ2 hpre
     have G1:=Lib.hid hbs
     have G3:=Lib.hid hbel
     have G4:=Lib.hid hn2
     have G5:=Lib.hid hch2
     have G6:=Lib.hid hchl
     have G7:=Lib.hid hcl2
     have G8:=Lib.hid hpre
     clear hbs hbel hchl hnx hn2 hch2 hcl2 hpre hwo hJ2
     gi_wp2
     refine hR.mono ?_
     rintro e W3 (⟨rfl,hJ3,hk3⟩ | ⟨rfl,hJx3⟩)
     ·have F1:=Lib.hid hJ3
      have F2:=Lib.hid hk3
      clear hJ3 hk3
      gi_wp2_with (refine ⟨trivial,?_⟩;gi_at_call 85;refine (callsIn_wide.2 (RB x (d+1) c2 _ G4.out)).mono ?_;rintro e w6 ⟨rfl,hb6⟩;have F3:=Lib.hid hb6;clear hb6)
      go_roundw
      case rel=>
       refine ⟨c2,done++[d],rest',rfl,?_,?_,?_,G3.out.trans (F2.out.trans (F3.out.mono (Nat.le_trans (Nat.le_trans hn0 G3.out.size) F2.out.size)))⟩
       ·rw [G1.out,List.append_assoc];rfl
       ·rw [HX.out];exact G5.out
       ·rw [List.map_append,← List.append_assoc]
        exact Rz (n:=W.heap.size) HJ.out F1.out F3.out
      case measure=>
       have e1:=G6.out
       have e2:=G7.out
       simp only [intOf]
       rw [e1,e2]
       simp
     ·have F1:=Lib.hid hJx3
      clear hJx3
      gi_wp2
      refine bodyPost_ret (results_none rfl _ _ _) rfl ?_
      exact ⟨⟨_,rfl⟩, .inr ⟨_,G8.out,F1.out⟩⟩
  ·obtain rfl:k=ws.length:=by omega
   gi_wp2
   go_end0
   exact ⟨⟨_,rfl⟩, .inl ⟨_,rfl,HK.out⟩⟩
end Go.Proofs.YtclpadlpcfnfmaaGreat.Am
end

section
namespace Go.Proofs.YtclpadlpcfnfmaaGreat.Am
open Go.AM Go.AM.Pure Go.RowKit Go.Shelf Go.Lib
open Go.Proofs
attribute [local go_sem] Oper.semAt_some
set_option maxRecDepth 100000
def Te (W W':World):Prop:=∀ (k:Nat) (cur:Array Value) (y:Nat×Nat),W.heap[k]? = some (.cells cur 67 y)→W'.heap[k]? = some (.cells cur 67 y)
def KpG (n₀:Nat) (W W':World):Prop:=Below n₀ W W'∧Te W W'
theorem KpG.trans {n₀:Nat} {A B C:World} (h:KpG n₀ A B) (k:KpG n₀ B C):KpG n₀ A C:=⟨h.1.trans k.1,fun i cur y hi=>k.2 i cur y (h.2 i cur y hi)⟩
theorem KpG.refl (n₀:Nat) (A:World):KpG n₀ A A:=⟨Below.refl _ _,fun _ _ _ h=>h⟩
def plS (ss:List (Int×Int)) (k:Nat):List Int:=Bi (ss.take k)
theorem VY (ss:List (Int×Int)) {k:Nat} (hk:k<ss.length):plS ss (k+1)=plS ss k++(List.range (ss[k].2-ss[k].1).toNat).map fun (j:Nat)=>ss[k].1+(j:Int):=by
 unfold plS Bi
 rw [List.take_succ_eq_append_getElem hk,List.flatMap_append]
 simp
theorem sa (ss:List (Int×Int)) {k n:Nat} (h:k≤n) (hn:n≤ss.length):plS ss k <+:plS ss n:=by
 induction h with
 | refl=>exact List.prefix_refl _
 | step h ih=>rw [VY ss (by omega)];exact (ih (by omega)).trans (List.prefix_append _ _)
theorem Zn1 (ss:List (Int×Int)) {k j:Nat} (hk:k<ss.length) (hj:j<(ss[k].2-ss[k].1).toNat):
  (plS ss k++(List.range j).map (fun (j:Nat)=>ss[k].1+(j:Int)))++[ss[k].1+(j:Int)] <+:plS ss ss.length:=by
 refine List.IsPrefix.trans ?_ (sa ss (show k+1≤ss.length by omega) (Nat.le_refl _))
 rw [VY ss hk,List.append_assoc,List.prefix_append_right_inj,← List.map_singleton (f:=fun (j:Nat)=>ss[k].1+(j:Int)),← List.map_append,← List.range_succ]
 obtain ⟨r,hr⟩:∃ r,(ss[k].2-ss[k].1).toNat=(j+1)+r:=⟨_,(Nat.add_sub_cancel' hj).symm⟩
 rw [hr,List.range_add,List.map_append]
 exact List.prefix_append _ _
def Zuh1 (n₀:Nat) (ss:List (Int×Int)) (J:List Int→World→Prop) (W:World) (i:Value) (wr:World):Prop:=
 ∃ k:Nat,k≤ss.length∧i = .int .i64 k∧J (plS ss k) wr∧Below n₀ W wr
def InS (n₀ Bs:Nat) (lo hi:Int) (ps:List Int) (J:List Int→World→Prop) (W:World) (v:Value) (wr:World):Prop:=
 ∃ (j:Nat) (y:Int),v = .int .i64 y∧y=lo+(j:Int)∧j≤(hi-lo).toNat∧J (ps++(List.range j).map fun (j:Nat)=>lo+(j:Int)) wr∧Below n₀ W wr∧wr.heap[Bs]? = some (.cells #[.int .i64 lo, .int .i64 hi] 67 (0,0))
set_option maxHeartbeats 4000000 in
theorem wA (n:Nat) (hn:1≤n) (l Bx n₀ b off cap:Nat) (ss:List (Int×Int)) (hl:ss.length≤4294967296) (hb:b<n₀) (J Jx:List Int→World→Prop)
  (hwf:∀ s∈ss,-9223372036854775808≤s.1∧s.2≤9223372036854775807)
  (hY:∀ pre x W,J pre W→pre++[x] <+:plS ss ss.length→YieldAt Fence.wide (n-1) Tryz.prog l #[.int .i64 x] W fun e W'=>
   (e = .returned (.bool true)∧J (pre++[x]) W'∧KpG n₀ W W')∨(e = .returned (.bool false)∧Jx (pre++[x]) W'))
  (W:World) (hn0:n₀≤W.heap.size) (hJ:AbidesFrom W.heap.size J) (hBx:W.cell? ⟨Bx,1,none⟩=some (.slice (some ⟨b,off,none⟩) ss.length cap))
  (hc:∀ k (h:k<ss.length),W.cell? ⟨b,off+k*2,none⟩=some (.int .i64 ss[k].1)∧W.cell? ⟨b,off+k*2+1,none⟩=some (.int .i64 ss[k].2)) (h0:J [] W):
  CallsIn Fence.wide n Tryz.prog 87 #[.func (.yield l) #[] #[], .pointer (some ⟨Bx,0,none⟩)] W (MB (plS ss ss.length) J Jx):=by
 have hro:Fence.wide.round=none:=rfl
 have HC:=Lib.hid hc
 have HF:=Lib.hid hwf
 have HY:=Lib.hid hY
 have HJ:=Lib.hid hJ
 clear hc hwf hY hJ
 refine callsIn_of_wp Tryz.func87 rfl trivial ?_ hro
 simp only [Tryz.ntmps87,List.size_toArray,List.length_cons,List.length_nil,Nat.reduceAdd,Nat.reduceSub,Array.replicate_succ,Array.replicate_zero,List.push_toArray,List.append_toArray,List.nil_append,List.cons_append]
 gi_wp2
 gi_loopw [9] (fun i wr=>Zuh1 n₀ ss J W i wr) (fun i _=>ss.length-(intOf i).toNat)
 case atStart=>exact ⟨0,Nat.zero_le _,rfl,h0,Below.refl _ _⟩
 case round=>
  obtain ⟨k,hk,rfl,hJs,hbel⟩:=hrel
  have HK:=Lib.hid hJs
  have HL:=Lib.hid hbel
  clear hJs hbel
  by_cases hlt:k<ss.length
  ·obtain ⟨lo,hlo⟩:∃ x,ss[k].1=x:=⟨_,rfl⟩
   obtain ⟨hi,hhi⟩:∃ x,ss[k].2=x:=⟨_,rfl⟩
   obtain ⟨hc1,hc2⟩:=HC.out k hlt
   have hcell1:wr.cell? ⟨b,off+k*2,none⟩=some (.int .i64 lo):=by rw [← hlo];exact (HL.out.cell (p:=⟨b,off+k*2,none⟩) hb).trans hc1
   have hcell2:wr.cell? ⟨b,off+k*2+1,none⟩=some (.int .i64 hi):=by rw [← hhi];exact (HL.out.cell (p:=⟨b,off+k*2+1,none⟩) hb).trans hc2
   have hw0: -9223372036854775808≤lo∧hi≤9223372036854775807:=by rw [← hlo,← hhi];exact HF.out _ (List.getElem_mem _)
   obtain ⟨hw1,hw2⟩:=hw0
   have HX:=Lib.hid (And.intro hlo hhi)
   clear hlo hhi hc1 hc2
   gi_wp2
   have H6:Hid (J (plS ss k) (wr.alloc (.cells #[.int .i64 lo, .int .i64 hi] 67))):=Lib.hid (Rz (n:=W.heap.size) HJ.out HK.out ((Below.refl _ wr).alloc (Nat.le_refl _) _))
   obtain ⟨wo,rfl⟩:∃ wo:World,wo=wr:=⟨_,rfl⟩
   gi_loopw [5] (fun v wq=>InS n₀ wo.heap.size lo hi (plS ss k) J W v wq) (fun v _=>(hi-intOf v).toNat)
   case atStart=>
    refine ⟨0,lo,rfl,by simp,Nat.zero_le _,by simpa using H6.out,HL.out.alloc (Nat.le_trans hn0 HL.out.size) _,heap_alloc_new wo _⟩
   case round=>
    obtain ⟨j,y,rfl,hy,hj,hJ2,hbel,hbox⟩:=hrel
    have hcb:wr.cell? ⟨wo.heap.size,1,none⟩=some (.int .i64 hi):=by rw [cell_of_row wr _ 1 _ 67 (0,0) hbox];rfl
    have hrange:y<hi→j<(hi-lo).toNat:=fun h=>by omega
    by_cases hlt2:y<hi
    ·have hpre:=Zn1 ss hlt (j:=j) (by rw [HX.out.1,HX.out.2];exact hrange hlt2)
     obtain ⟨fn,tmps,assign,body,hyd,hR⟩:=HY.out _ y _ hJ2 (by have:=hpre;rw [HX.out.1,← hy] at this;exact this)
     have hylo:lo≤y:=by omega
     have G1:=Lib.hid hy
     have G2:=Lib.hid hpre
     have G3:=Lib.hid hbel
     have G4:=Lib.hid hbox
     have G5:=Lib.hid (hrange hlt2)
     clear hy hpre hbel hbox hJ2 hrange hj
     gi_wp2
     refine hR.mono ?_
     rintro e W3 (⟨rfl,hJ3,hk3⟩ | ⟨rfl,hJx3⟩)
     ·have F1:=Lib.hid hJ3
      have F2:=Lib.hid hk3
      clear hJ3 hk3
      gi_wp2
      go_roundw
      case rel=>
       refine ⟨j+1,y+1,rfl,by rw [G1.out];push_cast;omega,G5.out,?_,G3.out.trans F2.out.1,F2.out.2 _ _ _ G4.out⟩
       have:=F1.out
       rw [G1.out,List.append_assoc,← List.map_singleton (f:=fun (j:Nat)=>lo+(j:Int)),← List.map_append,← List.range_succ] at this
       exact this
      case measure=>simp only [intOf];omega
     ·have F1:=Lib.hid hJx3
      clear hJx3
      gi_wp2
      refine bodyPost_ret (results_none rfl _ _ _) rfl ?_
      refine ⟨⟨_,rfl⟩, .inr ⟨_,?_,F1.out⟩⟩
      have:=G2.out
      rw [HX.out.1,← G1.out] at this
      exact this
    ·have G1:=Lib.hid hy
     have G2:=Lib.hid hJ2
     have G3:=Lib.hid hbel
     have hjj:j=(hi-lo).toNat:=by omega
     have G4:=Lib.hid hjj
     clear hy hJ2 hbel hbox hrange hj hjj
     gi_wp2
     go_roundw
     case rel=>
      refine ⟨k+1,by omega,by go_num,?_,G3.out⟩
      rw [VY ss hlt,HX.out.1,HX.out.2,← G4.out]
      exact G2.out
     case measure=>simp [intOf];omega
  ·obtain rfl:k=ss.length:=by omega
   gi_wp2
   go_end0
   exact ⟨⟨_,rfl⟩, .inl ⟨_,rfl,HK.out⟩⟩
end Go.Proofs.YtclpadlpcfnfmaaGreat.Am
end

section
namespace Go.Proofs.YtclpadlpcfnfmaaGreat.Am
open Go.AM Go.AM.Pure Go.RowKit Go.Shelf Go.Lib
open Go.Proofs
attribute [local go_sem] Oper.semAt_some
set_option maxRecDepth 100000
set_option maxHeartbeats 1000000 in
theorem kD (n:Nat) (l Bx:Nat) (a:Option Addr) (cap:Nat) (J Jx:List Int→World→Prop) (W:World) (hBx:W.cell? ⟨Bx,2,none⟩=some (.slice a 0 cap)) (h0:J [] W):
  CallsIn Fence.wide n Tryz.prog 84 #[.func (.yield l) #[] #[], .pointer (some ⟨Bx,0,none⟩)] W (MB [] J Jx):=by
 have hro:Fence.wide.round=none:=rfl
 refine callsIn_of_wp Tryz.func84 rfl trivial ?_ hro
 simp only [Tryz.ntmps84,List.size_toArray,List.length_cons,List.length_nil,Nat.reduceAdd,Nat.reduceSub,Array.replicate_succ,Array.replicate_zero,List.push_toArray,List.append_toArray,List.nil_append,List.cons_append]
 gi_wp2
 gi_loopw [9] (fun i wr=>i = .int .i64 0∧J [] wr) (fun _ _=>0)
 case atStart=>exact ⟨rfl,h0⟩
 case round=>
  obtain ⟨rfl,hJs⟩:=hrel
  gi_wp2
  go_end0
  exact ⟨⟨_,rfl⟩, .inl ⟨_,rfl,hJs⟩⟩
set_option maxHeartbeats 1000000 in
theorem kE (n:Nat) (l Bx:Nat) (a:Option Addr) (cap:Nat) (J Jx:List Int→World→Prop) (W:World) (hBx:W.cell? ⟨Bx,1,none⟩=some (.slice a 0 cap)) (h0:J [] W):
  CallsIn Fence.wide n Tryz.prog 87 #[.func (.yield l) #[] #[], .pointer (some ⟨Bx,0,none⟩)] W (MB [] J Jx):=by
 have hro:Fence.wide.round=none:=rfl
 refine callsIn_of_wp Tryz.func87 rfl trivial ?_ hro
 simp only [Tryz.ntmps87,List.size_toArray,List.length_cons,List.length_nil,Nat.reduceAdd,Nat.reduceSub,Array.replicate_succ,Array.replicate_zero,List.push_toArray,List.append_toArray,List.nil_append,List.cons_append]
 gi_wp2
 gi_loopw [9] (fun i wr=>i = .int .i64 0∧J [] wr) (fun _ _=>0)
 case atStart=>exact ⟨rfl,h0⟩
 case round=>
  obtain ⟨rfl,hJs⟩:=hrel
  gi_wp2
  go_end0
  exact ⟨⟨_,rfl⟩, .inl ⟨_,rfl,hJs⟩⟩
set_option maxHeartbeats 1000000 in
theorem gE (n:Nat) (l Bs:Nat) (a:Option Addr) (cap:Nat) (J Jx:List Int→World→Prop) (W:World) (hBs:W.cell? ⟨Bs,0,none⟩=some (.slice a 0 cap)) (h0:J [] W):
  CallsIn Fence.wide n Tryz.prog 149 #[.func (.yield l) #[] #[], .pointer (some ⟨Bs,0,none⟩)] W (MB [] J Jx):=by
 have hro:Fence.wide.round=none:=rfl
 refine callsIn_of_wp Tryz.func149 rfl trivial ?_ hro
 simp only [Tryz.ntmps149,List.size_toArray,List.length_cons,List.length_nil,Nat.reduceAdd,Nat.reduceSub,Array.replicate_succ,Array.replicate_zero,List.push_toArray,List.append_toArray,List.nil_append,List.cons_append]
 gi_wp2
 gi_loopw [7] (fun i wr=>i = .int .i64 0∧J [] wr) (fun _ _=>0)
 case atStart=>exact ⟨rfl,h0⟩
 case round=>
  obtain ⟨rfl,hJs⟩:=hrel
  gi_wp2
  go_end0
  exact ⟨⟨_,rfl⟩, .inl ⟨_,rfl,hJs⟩⟩
theorem Zfi {ok0:Nat→Nat→Prop} {w:World} {N:Nat} {ss:List (Int×Int)} {V:Value} (h:RepD ok0 w (.sl Oh) ss [V]) (hok:∀ b o,ok0 b o→b<N):
  (ss=[]∧∃ a cap,V = .slice a 0 cap)∨∃ b off cap,V = .slice (some ⟨b,off,none⟩) ss.length cap∧b<N∧∀ (k:Nat) (h:k<ss.length),w.cell? ⟨b,off+k*2,none⟩=some (.int .i64 ss[k].1)∧w.cell? ⟨b,off+k*2+1,none⟩=some (.int .i64 ss[k].2):=by
 obtain ⟨a,n,cap,hv,hln,hn,hmx,hc⟩:=h
 cases hv
 have hln':ss.length=n:=hln
 subst hln'
 have hc2:∀ (k:Nat) (h:k<ss.length),∃ A:Addr,a=some A∧A.spot=none∧ok0 A.block (A.off+(k*2+0))∧w.cell? ⟨A.block,A.off+(k*2+0),none⟩=some (.int .i64 ss[k].1)∧w.cell? ⟨A.block,A.off+(k*2+1),none⟩=some (.int .i64 ss[k].2):=by
  intro k hk
  obtain ⟨A,hA,hs,ys,⟨c1,c2,rfl,h1,h2⟩,hyc⟩:=hc k ss[k] (List.getElem?_eq_getElem hk)
  simp only [RepD] at h1 h2
  subst h1
  subst h2
  exact ⟨A,hA,hs,(hyc 0 _ rfl).1,(hyc 0 _ rfl).2,(hyc 1 _ rfl).2⟩
 cases ss with
 | nil=>exact .inl ⟨rfl,a,cap,rfl⟩
 | cons u us=>
  obtain ⟨A,hA,hs,ho,_⟩:=hc2 0 (by simp)
  subst hA
  obtain ⟨Ab,Ao,As⟩:=A
  dsimp only at hs
  subst hs
  refine .inr ⟨Ab,Ao,cap,rfl,hok _ _ ho,fun k hk=>?_⟩
  obtain ⟨A',hA',_,_,h1,h2⟩:=hc2 k hk
  cases hA'
  exact ⟨h1,h2⟩
abbrev Ue:Ty:= .pair (.int .i64) (.pair (.sl Oh) (.pair (.sl (.int .i64)) (.sl (.int .i64))))
def encI (x:Int):Array Value:=#[Value.int .i64 x]
def Zj (n n₀ g:Nat) (lb:Array Value) (ps:List Int) (w:World):Prop:=
 ∀ (l:Nat) (J Jx:List Int→World→Prop) (W:World),Below w.heap.size w W→AbidesFrom W.heap.size J→AbidesFrom W.heap.size Jx→
  (∀ pre x W1,J pre W1→pre++[x] <+:ps→YieldAt Fence.wide (n-1) Tryz.prog l (encI x) W1 fun e W'=>
   (e = .returned (.bool true)∧J (pre++[x]) W'∧KpG n₀ W1 W')∨(e = .returned (.bool false)∧Jx (pre++[x]) W'))→
  J [] W→CallsIn Fence.wide n Tryz.prog g (#[.func (.yield l) #[] #[]]++lb) W (MB ps J Jx)
theorem Zj.stops {n n₀ g:Nat} {lb:Array Value} {ps:List Int} {w:World} (h:Zj n n₀ g lb ps w):
  SeqStopsK Fence.wide n Tryz.prog g lb (fun x:{ x:Int // x∈ps }=>encI x.1) (KpG n₀) (fun ys=>ys.map (·.1)=ps) (fun pre=>pre.map (·.1) <+:ps) ps.length w:=by
 intro l J Jx W hW hJ hJx hY h0
 have ab:∀ {K:List { x:Int // x∈ps }→World→Prop},AbidesFrom W.heap.size K→AbidesFrom W.heap.size fun pre W=>∃ p:List { x:Int // x∈ps },p.map (·.1)=pre∧K p W:=
  fun hK s A B row ⟨p,hp,hk⟩ hg hr=>⟨p,hp,hK p A B row hk hg hr⟩
 refine (h l (fun pre W=>∃ p:List { x:Int // x∈ps },p.map (·.1)=pre∧J p W) (fun pre W=>∃ p:List { x:Int // x∈ps },p.map (·.1)=pre∧Jx p W) W hW (ab hJ) (ab hJx) ?_ ⟨[],rfl,h0⟩).mono ?_
 ·rintro pre x W1 ⟨p,rfl,hp⟩ hpx
  have hx:x∈ps:=hpx.subset (by simp)
  refine (hY p ⟨x,hx⟩ W1 hp (by have:=hpx.length_le;simp at this;omega)).mono ?_
  rintro e W' (⟨h1,h2,h3⟩ | ⟨h1,h2⟩)
  ·exact .inl ⟨h1,⟨_,by simp,h2⟩,h3⟩
  ·exact .inr ⟨h1,⟨_,by simp,h2⟩⟩
 ·rintro e W' ⟨hv,⟨ys,rfl,p,hp,hj⟩ | ⟨pre,hpre,p,rfl,hj⟩⟩
  ·exact ⟨hv, .inl ⟨p,hp,hj⟩⟩
  ·exact ⟨hv, .inr ⟨p,hpre,hj⟩⟩
theorem Zif1 {ok0:Nat→Nat→Prop} (n:Nat) (hn:1≤n) (Bx n₀:Nat) (V:Value) (ws ps:List Int) (w:World) (hn0:n₀≤w.heap.size) (hl:ws.length≤1024) (hok:∀ b o,ok0 b o→b<n₀) (hr:RepD ok0 w (.sl (.int .i64)) ws [V]) (hp:Ht 0 ws=some ps)
  (hBl:Bx<w.heap.size) (hBx:w.cell? ⟨Bx,2,none⟩=some V):Zj n n₀ 84 #[.pointer (some ⟨Bx,0,none⟩)] ps w:=fun l J Jx W hW hJ _ hY h0=>by
 obtain ⟨rfl,hbits⟩:=wF hp
 have hc':=(hW.cell (p:=⟨Bx,2,none⟩) hBl).trans hBx
 rcases Zk hr hok with ⟨rfl,a,cap,rfl⟩ | ⟨b,off,cap,rfl,h1,h2,h3,h4⟩
 ·exact kD n l Bx a cap J Jx W hc' h0
 ·exact wB n hn l Bx n₀ b off cap ws hl h1 h2 h3 J Jx hbits (fun pre x W hj hlt=>(hY pre x W hj hlt).mono fun e W' h=>h.imp_left fun ⟨h1,h2,h3⟩=>⟨h1,h2,h3.1⟩) W (Nat.le_trans hn0 hW.size) hJ hc'
   (fun k hk=>(hW.cell (p:=⟨b,off+k,none⟩) (Nat.lt_of_lt_of_le h3 hn0)).trans (h4 k hk)) h0
theorem Zjf1 {ok0:Nat→Nat→Prop} (n:Nat) (hn:1≤n) (Bx n₀:Nat) (V:Value) (ss:List (Int×Int)) (w:World) (hn0:n₀≤w.heap.size) (hl:ss.length≤4294967296) (hok:∀ b o,ok0 b o→b<n₀) (hr:RepD ok0 w (.sl Oh) ss [V])
  (hwf:∀ s∈ss,-9223372036854775808≤s.1∧s.2≤9223372036854775807) (hBl:Bx<w.heap.size) (hBx:w.cell? ⟨Bx,1,none⟩=some V):Zj n n₀ 87 #[.pointer (some ⟨Bx,0,none⟩)] (Bi ss) w:=fun l J Jx W hW hJ _ hY h0=>by
 have hc':=(hW.cell (p:=⟨Bx,1,none⟩) hBl).trans hBx
 have hpl:Bi ss=plS ss ss.length:=by unfold plS;rw [List.take_length]
 rw [hpl] at hY ⊢
 rcases Zfi hr hok with ⟨rfl,a,cap,rfl⟩ | ⟨b,off,cap,rfl,h3,h4⟩
 ·exact kE n l Bx a cap J Jx W hc' h0
 ·exact wA n hn l Bx n₀ b off cap ss hl h3 J Jx hwf hY W (Nat.le_trans hn0 hW.size) hJ hc'
   (fun k hk=>⟨(hW.cell (p:=⟨b,off+k*2,none⟩) (Nat.lt_of_lt_of_le h3 hn0)).trans (h4 k hk).1,(hW.cell (p:=⟨b,off+k*2+1,none⟩) (Nat.lt_of_lt_of_le h3 hn0)).trans (h4 k hk).2⟩) h0
theorem Zkf1 {ok0:Nat→Nat→Prop} (n:Nat) (hn:1≤n) (Bx n₀:Nat) (V:Value) (zs:List Int) (w:World) (hn0:n₀≤w.heap.size) (hl:zs.length≤4294967296) (hok:∀ b o,ok0 b o→b<n₀) (hr:RepD ok0 w (.sl (.int .i64)) zs [V])
  (hBl:Bx<w.heap.size) (hBx:w.cell? ⟨Bx,0,none⟩=some V):Zj n n₀ 149 #[.pointer (some ⟨Bx,0,none⟩)] zs w:=fun l J Jx W hW hJ hJx hY h0=>by
 have hc':=(hW.cell (p:=⟨Bx,0,none⟩) hBl).trans hBx
 rcases Zk hr hok with ⟨rfl,a,cap,rfl⟩ | ⟨b,off,cap,rfl,h1,h2,h3,h4⟩
 ·exact gE n l Bx a cap J Jx W hc' h0
 ·have hcz:∀ j,j<zs.length→w.cell? ⟨b,off+j,none⟩=some (.int .i64 (zs[j]?.getD 0)):=fun j hj=>by
   have:=h4 j hj
   rw [List.getD_eq_getElem?_getD] at this
   exact this
  have hb:=(Below.mono hW hn0)
  refine (Xs Fence.wide n trivial rfl hn l Bx n₀ b off zs.length cap zs (by omega) h3 J Jx (fun pre x W hj hlt=>(hY pre x W hj (by rw [gF] at hlt;exact hlt)).mono fun e W' h=>h.imp_left fun ⟨h1,h2,h3⟩=>⟨h1,h2,h3.1⟩) W hc'
   (fun j hj=>(hb.cell (p:=⟨b,off+j,none⟩) h3).trans (hcz j hj)) h0).mono ?_
  rintro e W' ⟨he,⟨ys,rfl,hj⟩ | ⟨pre,⟨k,hk,rfl⟩,hj⟩⟩
  ·exact ⟨he, .inl ⟨_,gF zs,hj⟩⟩
  ·exact ⟨he, .inr ⟨_,by rw [wC zs hk];exact List.take_prefix _ _,hj⟩⟩
end Go.Proofs.YtclpadlpcfnfmaaGreat.Am
end

section
namespace Go.Proofs.YtclpadlpcfnfmaaGreat.Am
open Go.AM Go.AM.Pure Go.RowKit Go.Shelf Go.Lib
open Go.Proofs
attribute [local go_sem] Oper.semAt_some
set_option maxRecDepth 100000
abbrev PD:Ty:= .pair (.int .i64) (.pair (.int .i64) .str)
theorem VX (s:ByteArray) (y:List (Int×(Int×ByteArray))×Int) (w:World) (hF:EI s=some y):
  Calls Tryz.prog 39 #[.string s] w fun e w'=>(∃ a n c,RepD (okN (fun _ _=>False) w w') w' (.sl PD) y.1 [.slice a n c]∧e = .returned (.tuple #[.slice a n c, .int .i64 y.2]))∧Below w.heap.size w w':=by
 refine (Qx (ps:=[.str]) (rs:=[(.sl PD,[]),(.int .i64,[])]) (x:=(s,())) (y:=y) (F:=fun x=>EI x.1) Zfw hF (ok0:=fun _ _=>False) (vs:=[.string s]) (z:=0) ⟨rfl,Nat.zero_le _⟩ (fun _ _ h=>h.elim) ⟨[.string s],_,rfl,rfl,rfl⟩).mono ?_
 rintro e W' ⟨⟨us,⟨cs,r,h1,h2,cs2,h3,h4⟩,rfl⟩,hb⟩
 simp only [RepD] at h4
 subst h4
 subst h3
 obtain ⟨a,n,c,rfl,h5⟩:=h2
 subst h1
 exact ⟨⟨a,n,c,⟨a,n,c,rfl,h5⟩,rfl⟩,hb⟩
def KH (ok0:Nat→Nat→Prop) (w:World) (x:Int×(List (Int×Int)×(List Int×List Int))) (V1 V2 V3:Value):Prop:=
 RepD ok0 w (.sl Oh) x.2.1 [V1]∧RepD ok0 w (.sl (.int .i64)) x.2.2.1 [V2]∧RepD ok0 w (.sl (.int .i64)) x.2.2.2 [V3]
theorem Xr {ok0:Nat→Nat→Prop} {w:World} {x:Int×(List (Int×Int)×(List Int×List Int))} {V1 V2 V3:Value} (h:KH ok0 w x V1 V2 V3):RepD ok0 w Ue x [.int .i64 x.1,V1,V2,V3]:=
 ⟨[.int .i64 x.1],_,rfl,rfl,[V1],_,rfl,h.1,[V2],_,rfl,h.2.1,h.2.2⟩
theorem rX {ok0:Nat→Nat→Prop} {w:World} {x:Int×(List (Int×Int)×(List Int×List Int))} {cs:List Value} (h:RepD ok0 w Ue x cs):
  ∃ a1 n1 c1 a2 n2 c2 a3 n3 c3,cs=[.int .i64 x.1, .slice a1 n1 c1, .slice a2 n2 c2, .slice a3 n3 c3]∧KH ok0 w x (.slice a1 n1 c1) (.slice a2 n2 c2) (.slice a3 n3 c3):=by
 obtain ⟨k1,k2,rfl,h1,k3,k4,rfl,h2,k5,k6,rfl,h3,h4⟩:=h
 simp only [RepD] at h1
 subst h1
 obtain ⟨a1,n1,c1,rfl,h2'⟩:=h2
 obtain ⟨a2,n2,c2,rfl,h3'⟩:=h3
 obtain ⟨a3,n3,c3,rfl,h4'⟩:=h4
 exact ⟨a1,n1,c1,a2,n2,c2,a3,n3,c3,rfl,⟨a1,n1,c1,rfl,h2'⟩,⟨a2,n2,c2,rfl,h3'⟩,⟨a3,n3,c3,rfl,h4'⟩⟩
theorem gD {ok0:Nat→Nat→Prop} {V1 V2 V3:Value} (x:Int×(List (Int×Int)×(List Int×List Int))) (m r:Int) (w:World) (hok:∀ b o,ok0 b o→b<w.heap.size) (hr:KH ok0 w x V1 V2 V3) (hF:Dh x m=some r):
  Calls Tryz.prog 40 #[.agg #[.int .i64 x.1,V1,V2,V3], .int .i64 m] w fun e w'=>e = .returned (.int .i64 r)∧Below w.heap.size w w':=by
 refine (Qx (ps:=[Ue, .int .i64]) (rs:=[(.int .i64,[])]) (x:=(x,m,())) (y:=r) (F:=fun x=>Dh x.1 x.2.1) RV hF (vs:=[.agg #[.int .i64 x.1,V1,V2,V3], .int .i64 m]) (z:=0) ⟨rfl,Nat.zero_le _⟩ hok ⟨_,_,rfl,Xr hr,[.int .i64 m],_,rfl,rfl,rfl⟩).mono ?_
 rintro e W' ⟨⟨us,⟨cs,h1,h2⟩,rfl⟩,hb⟩
 simp only [RepD] at h2
 subst h2
 subst h1
 exact ⟨rfl,hb⟩
theorem bn {ok0:Nat→Nat→Prop} {V1 V2 V3:Value} (x:Int×(List (Int×Int)×(List Int×List Int))) (r:Int) (w:World) (hok:∀ b o,ok0 b o→b<w.heap.size) (hr:KH ok0 w x V1 V2 V3) (hF:CV x=some r):
  Calls Tryz.prog 41 #[.agg #[.int .i64 x.1,V1,V2,V3]] w fun e w'=>e = .returned (.int .i64 r)∧Below w.heap.size w w':=by
 refine (Qx (ps:=[Ue]) (rs:=[(.int .i64,[])]) (x:=(x,())) (y:=r) (F:=fun x=>CV x.1) RI hF (vs:=[.agg #[.int .i64 x.1,V1,V2,V3]]) (z:=0) ⟨rfl,Nat.zero_le _⟩ hok ⟨_,_,rfl,Xr hr,rfl⟩).mono ?_
 rintro e W' ⟨⟨us,⟨cs,h1,h2⟩,rfl⟩,hb⟩
 simp only [RepD] at h2
 subst h2
 subst h1
 exact ⟨rfl,hb⟩
def rY (n n₀:Nat) (ps:List Int) (w:World) (e:Ending) (w':World):Prop:=
 ∃ g lb,e = .returned (.func (.func g) #[] lb)∧Below w.heap.size w w'∧(∀ args w,(callFunc g args).run Tryz.prog w = .ok (.enter g args) w)∧Zj n n₀ g lb ps w'
theorem rZ {ok0:Nat→Nat→Prop} (n:Nat) (hn:1≤n) (n₀:Nat) {a1 a2 a3:Option Addr} {l1 l2 l3 c1 c2 c3:Nat} (x:Int×(List (Int×Int)×(List Int×List Int))) (ps:List Int) (w:World) (hn0:n₀≤w.heap.size) (hok:∀ b o,ok0 b o→b<n₀)
  (hr:KH ok0 w x (.slice a1 l1 c1) (.slice a2 l2 c2) (.slice a3 l3 c3)) (hF:Ji x=some ps) (hps:ps.length≤4294967296):
  Calls Tryz.prog 42 #[.agg #[.int .i64 x.1, .slice a1 l1 c1, .slice a2 l2 c2, .slice a3 l3 c3]] w (rY n n₀ ps w):=by
 have hbel:Below w.heap.size w (w.alloc (.cells #[.int .i64 x.1, .slice a1 l1 c1, .slice a2 l2 c2, .slice a3 l3 c3] 31)):=(Below.refl _ _).alloc (Nat.le_refl _) _
 have hok':∀ b o,ok0 b o→b<w.heap.size:=fun b o h=>Nat.lt_of_lt_of_le (hok b o h) hn0
 have hsz:w.heap.size<(w.alloc (.cells #[.int .i64 x.1, .slice a1 l1 c1, .slice a2 l2 c2, .slice a3 l3 c3] 31)).heap.size:=by simp
 have hbox:=heap_alloc_new w (.cells #[.int .i64 x.1, .slice a1 l1 c1, .slice a2 l2 c2, .slice a3 l3 c3] 31)
 obtain ⟨hr1,hr2,hr3⟩:=hr
 unfold Ji at hF
 by_cases h2:x.1=2
 ·rw [show eqI x.1 2=true from beq_iff_eq.2 h2] at hF
  dsimp only [cond] at hF
  cases hg:decide (x.2.2.1.length≤1024) with
  | false=>rw [hg] at hF;cases hF
  | true=>
   rw [hg] at hF
   rw [h2] at hbel hsz hbox ⊢
   refine (callsIn_wide (n:=3)).1 ((Zhi Fence.wide 3 trivial rfl (by omega) a1 a2 a3 l1 l2 l3 c1 c2 c3 w).mono ?_)
   rintro e w' ⟨rfl,rfl⟩
   exact ⟨84,_,rfl,hbel,Tryz.call84,Zif1 n hn w.heap.size n₀ _ x.2.2.1 ps _ (Nat.le_trans hn0 hbel.size) (of_decide_eq_true hg) hok (GR hr2 hok' hbel) hF hsz (by rw [cell_of_row _ _ _ _ _ _ hbox];rfl)⟩
 ·rw [show eqI x.1 2=false from beq_false_of_ne h2] at hF
  dsimp only [cond] at hF
  by_cases h3:x.1=3
  ·rw [show eqI x.1 3=true from beq_iff_eq.2 h3] at hF
   cases hF
   rw [h3] at hbel hsz hbox ⊢
   have hbel2:=hbel.alloc hbel.size (.cells #[.slice a3 l3 c3] 29)
   refine (callsIn_wide (n:=3)).1 ((Zgi Fence.wide 3 trivial trivial rfl (by omega) a1 a2 a3 l1 l2 l3 c1 c2 c3 w).mono ?_)
   rintro e w' ⟨rfl,rfl⟩
   have hb2:=heap_alloc_new (w.alloc (.cells #[.int .i64 3, .slice a1 l1 c1, .slice a2 l2 c2, .slice a3 l3 c3] 31)) (.cells #[.slice a3 l3 c3] 29)
   rw [World.size_alloc] at hb2
   exact ⟨149,_,rfl,hbel2,Tryz.call149,Zkf1 n hn (w.heap.size+1) n₀ _ x.2.2.2 _ (Nat.le_trans hn0 hbel2.size) hps hok (GR hr3 hok' hbel2) (by simp) (by rw [cell_of_row _ _ _ _ _ _ hb2];rfl)⟩
  ·rw [show eqI x.1 3=false from beq_false_of_ne h3] at hF
   dsimp only [cond] at hF
   cases hg:(decide (x.2.1.length≤4294967296) && x.2.1.all (fun s=>leI (-9223372036854775808) s.1 && leI s.2 9223372036854775807)) with
   | false=>rw [hg] at hF;cases hF
   | true=>
    rw [hg] at hF
    cases hF
    rw [Bool.and_eq_true,List.all_eq_true] at hg
    refine (callsIn_wide (n:=3)).1 ((Zii Fence.wide 3 trivial rfl (by omega) x.1 h2 h3 a1 a2 a3 l1 l2 l3 c1 c2 c3 w).mono ?_)
    rintro e w' ⟨rfl,rfl⟩
    refine ⟨87,_,rfl,hbel,Tryz.call87,Zjf1 n hn w.heap.size n₀ _ x.2.1 _ (Nat.le_trans hn0 hbel.size) (of_decide_eq_true hg.1) hok (GR hr1 hok' hbel) (fun s hs=>?_) hsz (by rw [cell_of_row _ _ _ _ _ _ hbox];rfl)⟩
    have:=hg.2 s hs
    rw [Bool.and_eq_true] at this
    exact ⟨of_decide_eq_true this.1,of_decide_eq_true this.2⟩
end Go.Proofs.YtclpadlpcfnfmaaGreat.Am
end
