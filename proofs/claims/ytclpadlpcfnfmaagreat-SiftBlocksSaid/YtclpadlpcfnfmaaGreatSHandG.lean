import Derived.RangeFuncNested
import Derived.RangeFuncBound
import Derived.RangeFuncCalls
import Derived.Shelf.RegionOpen
import Derived.Test.YtclpadlpcfnfmaaGreatSHandA
import Derived.Deep.RegionHeld3
section
/- The iterators over a list of places. (values1_in .. values_stops: the worked proof of slices.Values, turned to this seat.) -/
namespace Go.Proofs.YtclpadlpcfnfmaaGreat.Am
open Go.AM Go.AM.Pure Go.RowKit Go.Shelf Go.Lib
open Go.Proofs
attribute [local go_sem] Oper.semAt_some
def upto {α:Type} (f:Nat→α) (k:Nat):List α:=(List.range k).map f
theorem YK {α:Type} (f:Nat→α) (k:Nat):upto f (k+1)=upto f k++[f k]:=by simp [upto,List.range_succ]
theorem Zdo {α:Type} (f:Nat→α) {k n:Nat} (h:k≤n):upto f k <+:upto f n:=by
 induction h with
 | refl=>exact List.prefix_refl _
 | step _ ih=>rw [YK];exact ih.trans (List.prefix_append _ _)
theorem tc (zs:List Int):upto (fun j=>zs[j]?.getD 0) zs.length=zs:=by
 apply List.ext_getElem
 ·simp [upto]
 ·intro i h1 h2
  simp [upto,h2]
set_option maxRecDepth 100000 in
set_option maxHeartbeats 2000000 in
theorem Zxq (F:Fence) (n:Nat) (h7:F.fn 149) (C4:F.round=none) (hn:1≤n) (l Bs n₀ b off len cap:Nat) (zs:List Int) (Yl5:len*8≤140737488351232) (hb:b<n₀) (J Jx:List Int→World→Prop)
  (hY:∀ pre x W,J pre W→pre++[x] <+:upto (fun j=>zs[j]?.getD 0) len→YieldAt F (n-1) Tryz.prog l #[.int .i64 x] W fun e W'=>
   (e = .returned (.bool true)∧J (pre++[x]) W'∧Below n₀ W W')∨(e = .returned (.bool false)∧Jx (pre++[x]) W'))
  (W:World) (hBs:W.cell? ⟨Bs,0,none⟩=some (.slice (some ⟨b,off,none⟩) len cap)) (hc:∀ j,j<len→W.cell? ⟨b,off+j,none⟩=some (.int .i64 (zs[j]?.getD 0))) (h0:J [] W):
  CallsIn F n Tryz.prog 149 #[.func (.yield l) #[] #[], .pointer (some ⟨Bs,0,none⟩)] W fun e W'=>(∃ v,e = .returned v)∧
   ((∃ ys,ys=upto (fun j=>zs[j]?.getD 0) len∧J ys W')∨(∃ pre,(∃ k,k≤len∧pre=upto (fun j=>zs[j]?.getD 0) k)∧Jx pre W')):=by
 refine callsIn_of_wp Tryz.func149 rfl h7 ?_ C4
 simp only [Tryz.ntmps149,List.size_toArray,Aj,List.length_nil,Nat.reduceAdd,Nat.reduceSub,Array.replicate_succ,Array.replicate_zero,List.push_toArray,List.append_toArray,AH,List.cons_append]
 gi_wp2
 gi_loopw [7] (fun i wr=>∃ k:Nat,k≤len∧i = .int .i64 k∧J (upto (fun j=>zs[j]?.getD 0) k) wr∧Below n₀ W wr)
  (fun i _=>len-(intOf i).toNat)
 case atStart=>exact ⟨0,Nat.zero_le _,rfl,h0,Below.refl _ _⟩
 case round=>
  obtain ⟨k,hk,rfl,Lr,JQ⟩:=hrel
  have hcx:k<len→wr.cell? ⟨b,off+k,none⟩=some (.int .i64 (zs[k]?.getD 0)):=fun h=>(JQ.cell (p:=⟨b,off+k,none⟩) hb).trans (hc k h)
  by_cases AO:k<len
  ·obtain ⟨fn,tmps,assign,body,hy,hR⟩:=hY _ (zs[k]?.getD 0) wr Lr (by rw [← YK];exact Zdo _ AO)
   have Yv5:=hcx AO
   gi_wp2
   refine hR.mono ?_
   rintro e W3 (⟨rfl,SK,SL⟩ | ⟨rfl,Sd⟩)
   ·-- THE ROUND GOES ON
    gi_wp2
    go_roundw
    case rel=>exact ⟨k+1,by omega,by simp,by rw [YK];exact SK,JQ.trans SL⟩
    case measure=>simp [intOf];omega
   ·gi_wp2
    refine bodyPost_ret (results_none rfl _ _ _) rfl ?_
    exact ⟨⟨_,rfl⟩, .inr ⟨_,⟨k+1,by omega,(YK _ _).symm⟩,Sd⟩⟩
  ·obtain rfl:k=len:=by omega
   gi_wp2
   go_end0
   exact ⟨⟨_,rfl⟩, .inl ⟨_,rfl,Lr⟩⟩
theorem Zev (zs:List Int) {k:Nat} (hk:k≤zs.length):upto (fun j=>zs[j]?.getD 0) k=zs.take k:=by
 apply List.ext_getElem
 ·simp [upto,hk]
 ·intro i h1 h2
  have:i<zs.length:=by simp [upto] at h1;omega
  simp [upto,this]
def Ints (n₀:Nat) (W:World) (sv:Value) (zs:List Int):Prop:=
 (sv = .slice none 0 0∧zs=[])∨∃ b off cap,sv = .slice (some ⟨b,off,none⟩) zs.length cap∧b<n₀∧∀ j,j<zs.length→W.cell? ⟨b,off+j,none⟩=some (.int .i64 (zs[j]?.getD 0))
theorem Ints.below {n₀:Nat} {A B:World} (h:Below n₀ A B) {sv:Value} {zs:List Int}:Ints n₀ A sv zs→Ints n₀ B sv zs
 | .inl e=> .inl e
 | .inr ⟨b,off,cap,e,hb,hc⟩=> .inr ⟨b,off,cap,e,hb,fun j hj=>(h.cell (p:=⟨b,off+j,none⟩) hb).trans (hc j hj)⟩
set_option maxHeartbeats 1000000 in
theorem Zfv (F:Fence) (n:Nat) (h5:F.fn 86) (C4:F.round=none) (a:Option Addr) (len cap:Nat) (w:World):
  CallsIn F n Tryz.prog 86 #[.slice a len cap] w fun e w'=>e = .returned (.func (.func 149) #[] #[.pointer (some ⟨w.heap.size,0,none⟩)])∧w'=w.alloc (.cells #[.slice a len cap] 29):=by
 refine callsIn_of_wp Tryz.func86 rfl h5 ?_ C4
 simp only [Tryz.ntmps86,List.size_toArray,Aj,List.length_nil,Nat.reduceAdd,Nat.reduceSub,Array.replicate_succ,Array.replicate_zero,List.push_toArray,List.append_toArray,AH,List.cons_append]
 gi_wp2
 go_ret
 exact ⟨rfl,rfl⟩
end Go.Proofs.YtclpadlpcfnfmaaGreat.Am
end

section
namespace Go.Proofs.YtclpadlpcfnfmaaGreat.Am
open Go.AM Go.AM.Pure Go.RowKit Go.Shelf Go.Lib
open Go.Proofs
attribute [local go_sem] Oper.semAt_some
set_option maxRecDepth 100000
set_option maxHeartbeats 1000000 in
theorem Zq6 (F:Fence) (n:Nat) (XK:F.fn 42) (h86:F.fn 86) (C4:F.round=none) (hn:2≤n) (a1 a2 a:Option Addr) (l1 l2 len c1 c2 cap:Nat) (w:World):
  CallsIn F n Tryz.prog 42 #[.agg #[.int .i64 3, .slice a1 l1 c1, .slice a2 l2 c2, .slice a len cap]] w fun e w'=>e = .returned (.func (.func 149) #[] #[.pointer (some ⟨w.heap.size+1,0,none⟩)])∧w'=(w.alloc (.cells #[.int .i64 3, .slice a1 l1 c1, .slice a2 l2 c2, .slice a len cap] 31)).alloc (.cells #[.slice a len cap] 29):=by
 refine callsIn_of_wp Tryz.func42 rfl XK ?_ C4
 simp only [Tryz.ntmps42,List.size_toArray,Aj,List.length_nil,Nat.reduceAdd,Nat.reduceSub,Array.replicate_succ,Array.replicate_zero,List.push_toArray,List.append_toArray,AH,List.cons_append]
 have h1:1≤n:=by omega
 gi_wp2_with (gi_at_call 86;refine (Zfv F (n-1) h86 C4 _ _ _ _).mono ?_;rintro e w' ⟨rfl,rfl⟩)
 go_ret
 exact ⟨rfl,rfl⟩
set_option maxHeartbeats 1000000 in
theorem Zp6 (F:Fence) (n:Nat) (XK:F.fn 42) (C4:F.round=none) (hn:2≤n) (a1 a2 a:Option Addr) (l1 l2 len c1 c2 cap:Nat) (w:World):
  CallsIn F n Tryz.prog 42 #[.agg #[.int .i64 2, .slice a1 l1 c1, .slice a2 l2 c2, .slice a len cap]] w fun e w'=>e = .returned (.func (.func 84) #[] #[.pointer (some ⟨w.heap.size,0,none⟩)])∧w'=w.alloc (.cells #[.int .i64 2, .slice a1 l1 c1, .slice a2 l2 c2, .slice a len cap] 31):=by
 refine callsIn_of_wp Tryz.func42 rfl XK ?_ C4
 simp only [Tryz.ntmps42,List.size_toArray,Aj,List.length_nil,Nat.reduceAdd,Nat.reduceSub,Array.replicate_succ,Array.replicate_zero,List.push_toArray,List.append_toArray,AH,List.cons_append]
 gi_wp2
 go_ret
 exact ⟨rfl,rfl⟩
set_option maxHeartbeats 1000000 in
theorem Zr6 (F:Fence) (n:Nat) (XK:F.fn 42) (C4:F.round=none) (hn:2≤n) (form:Int) (hf2:¬ form=2) (hf3:¬ form=3) (a1 a2 a:Option Addr) (l1 l2 len c1 c2 cap:Nat) (w:World):
  CallsIn F n Tryz.prog 42 #[.agg #[.int .i64 form, .slice a1 l1 c1, .slice a2 l2 c2, .slice a len cap]] w fun e w'=>e = .returned (.func (.func 87) #[] #[.pointer (some ⟨w.heap.size,0,none⟩)])∧w'=w.alloc (.cells #[.int .i64 form, .slice a1 l1 c1, .slice a2 l2 c2, .slice a len cap] 31):=by
 refine callsIn_of_wp Tryz.func42 rfl XK ?_ C4
 simp only [Tryz.ntmps42,List.size_toArray,Aj,List.length_nil,Nat.reduceAdd,Nat.reduceSub,Array.replicate_succ,Array.replicate_zero,List.push_toArray,List.append_toArray,AH,List.cons_append]
 gi_wp2
 go_ret
 exact ⟨rfl,rfl⟩
end Go.Proofs.YtclpadlpcfnfmaaGreat.Am
end

section
namespace Go.Proofs.YtclpadlpcfnfmaaGreat.Am
open Go.AM Go.AM.Pure Go.RowKit Go.Shelf Go.Lib
open Go.Proofs
attribute [local go_sem] Oper.semAt_some
set_option maxRecDepth 100000
theorem Zco {A B:World} (h:Below A.heap.size A B):A.grownBy B none:=⟨h.os,h.tape,h.output,h.size,fun k hk _=>h.block k hk⟩
theorem ek {β:Type} {n:Nat} {J:β→World→Prop} (hJ:AbidesFrom n J) {s:β} {A B:World} (h:J s A) (hb:Below A.heap.size A B):J s B:=hJ s A B none h (Zco hb) (fun r e=>by cases e)
def Yc5 (n₀:Nat) (ws:List Int) (J:List Int→World→Prop) (W:World) (i:Value) (wr:World):Prop:=
 ∃ k:Nat,k≤ws.length∧i = .int .i64 k∧J (Ht ws k) wr∧Below n₀ W wr
def InJ (n₀:Nat) (ws:List Int) (k:Nat) (J:List Int→World→Prop) (W:World) (v:Value) (wr:World):Prop:=
 ∃ (b:Int) (done rest:List Int),v = .int .i64 b∧Fk 70 (ws.getD k 0) 0=some (done++rest)∧Ch (ws.getD k 0) b rest∧J (Ht ws k++done.map fun b=>64*(k:Int)+b) wr∧Below n₀ W wr
def Th (ps:List Int) (J Jx:List Int→World→Prop) (e:Ending) (W':World):Prop:=
 (∃ v,e = .returned v)∧((∃ ys,ys=ps∧J ys W')∨(∃ pre,pre <+:ps∧Jx pre W'))
theorem Zzq (ws:List Int) {k n:Nat} (h:k≤n):Ht ws k <+:Ht ws n:=by
 induction h with
 | refl=>exact List.prefix_refl _
 | step _ ih=>rw [Tk];exact ih.trans (List.prefix_append _ _)
theorem Ytn (ws:List Int) {k:Nat} (hk:k<ws.length) {done rest:List Int} {d:Int} (h:Fk 70 (ws.getD k 0) 0=some (done++d :: rest)):
  (Ht ws k++done.map (fun b=>64*(k:Int)+b))++[64*(k:Int)+d] <+:Ht ws ws.length:=by
 refine List.IsPrefix.trans ?_ (Zzq ws (show k+1≤ws.length by omega))
 rw [Tk,h]
 simp
set_option maxHeartbeats 4000000 in
theorem Zcv (n:Nat) (hn:1≤n) (l Bx n₀ b off cap:Nat) (ws:List Int) (hl:ws.length≤1024) (Fa:ws.length≤cap) (JT:cap≤9223372036854775807) (hb:b<n₀) (J Jx:List Int→World→Prop)
  (K0:∀ k,k<ws.length→∃ bs,Fk 70 (ws.getD k 0) 0=some bs)
  (hY:∀ pre x W,J pre W→pre++[x] <+:Ht ws ws.length→YieldAt Fence.wide (n-1) Tryz.prog l #[.int .i64 x] W fun e W'=>
   (e = .returned (.bool true)∧J (pre++[x]) W'∧Below n₀ W W')∨(e = .returned (.bool false)∧Jx (pre++[x]) W'))
  (W:World) (Df:n₀≤W.heap.size) (hJ:AbidesFrom W.heap.size J) (PS:W.cell? ⟨Bx,2,none⟩=some (.slice (some ⟨b,off,none⟩) ws.length cap))
  (hc:∀ k,k<ws.length→W.cell? ⟨b,off+k,none⟩=some (.int .i64 (ws.getD k 0))) (h0:J [] W):
  CallsIn Fence.wide n Tryz.prog 84 #[.func (.yield l) #[] #[], .pointer (some ⟨Bx,0,none⟩)] W (Th (Ht ws ws.length) J Jx):=by
 have C4:Fence.wide.round=none:=rfl
 have HC:=Lib.hid hc
 have HB:=Lib.hid K0
 have HY:=Lib.hid hY
 have HJ:=Lib.hid hJ
 clear hc K0 hY hJ
 refine callsIn_of_wp Tryz.func84 rfl trivial ?_ C4
 simp only [Tryz.ntmps84,List.size_toArray,Aj,List.length_nil,Nat.reduceAdd,Nat.reduceSub,Array.replicate_succ,Array.replicate_zero,List.push_toArray,List.append_toArray,AH,List.cons_append]
 gi_wp2
 gi_loopw [9] (fun i wr=>Yc5 n₀ ws J W i wr) (fun i _=>ws.length-(intOf i).toNat)
 case atStart=>exact ⟨0,Nat.zero_le _,rfl,h0,Below.refl _ _⟩
 case round=>
  obtain ⟨k,hk,rfl,Lr,Dz⟩:=hrel
  have HK:=Lib.hid Lr
  have HL:=Lib.hid Dz
  clear Lr Dz
  by_cases AO:k<ws.length
  ·obtain ⟨x,hx⟩:∃ x,ws.getD k 0=x:=⟨_,rfl⟩
   obtain ⟨bs,DK⟩:=HB.out k AO
   obtain ⟨c,Lh,JU⟩:=bG DK (Ah _)
   have C8:wr.cell? ⟨b,off+k,none⟩=some (.int .i64 x):=by rw [← hx];exact (HL.out.cell (p:=⟨b,off+k,none⟩) hb).trans (HC.out k AO)
   rw [hx] at Lh
   have HX:=Lib.hid hx
   have H1:=Lib.hid Lh
   have H2:=Lib.hid JU
   have H3:=Lib.hid DK
   clear hx Lh JU DK
   gi_wp2_with (refine ⟨trivial,?_⟩;gi_at_call 85;refine (callsIn_wide.2 (Y2 x 0 c _ H1.out)).mono ?_;rintro e w2 ⟨rfl,Da⟩;have H4:=Lib.hid Da;clear Da)
   have H5:Hid (Below n₀ W w2):=Lib.hid (HL.out.trans (H4.out.mono (Nat.le_trans Df HL.out.size)))
   have H6:Hid (J (Ht ws k) w2):=Lib.hid (ek (n:=W.heap.size) HJ.out HK.out H4.out)
   obtain ⟨wo,da⟩:∃ wo:World,wo=w2:=⟨_,rfl⟩
   gi_loopw [5] (fun v wq=>InJ n₀ ws k J W v wq) (fun v _=>bH x (intOf v))
   case atStart=>
    refine ⟨c,[],bs,rfl,H3.out,H2.out,?_,H5.out⟩
    simp only [List.map_nil,Ay]
    exact H6.out
   case round=>
    obtain ⟨d,done,rest,rfl,DK,JU,PU,Dz⟩:=hrel
    rw [HX.out] at JU
    have Se:=Y3 JU
    rcases JU with ⟨rfl,hd⟩ | ⟨m,RX,hm,rfl,h0d,B1,JQ⟩
    ·have G1:=Lib.hid DK
     have G2:=Lib.hid PU
     have G3:=Lib.hid Dz
     clear DK PU Dz Se da
     gi_wp2
     go_roundw
     case rel=>
      refine ⟨k+1,by omega,by go_num,?_,G3.out⟩
      rw [Tk,G1.out,Ay]
      exact G2.out
     case measure=>simp [intOf];omega
    ·have HM:=Ytn ws AO DK
     obtain ⟨c2,Kg,Sf⟩:=bG JQ hm
     have Xe:=Y3 Sf
     obtain ⟨fn,tmps,assign,body,hy,hR⟩:=HY.out _ (64*(k:Int)+d) _ PU HM
     have G1:=Lib.hid DK
     have G3:=Lib.hid Dz
     have G4:=Lib.hid Kg
     have G5:=Lib.hid Sf
     have G6:=Lib.hid Se
     have G7:=Lib.hid Xe
     have G8:=Lib.hid HM
     clear DK Dz Se JQ Kg Sf Xe HM da PU
     gi_wp2
     refine hR.mono ?_
     rintro e W3 (⟨rfl,SK,SL⟩ | ⟨rfl,Sd⟩)
     ·have F1:=Lib.hid SK
      have F2:=Lib.hid SL
      clear SK SL
      gi_wp2_with (refine ⟨trivial,?_⟩;gi_at_call 85;refine (callsIn_wide.2 (Y2 x (d+1) c2 _ G4.out)).mono ?_;rintro e w6 ⟨rfl,XJ⟩;have F3:=Lib.hid XJ;clear XJ)
      go_roundw
      case rel=>
       refine ⟨c2,done++[d],RX,rfl,?_,?_,?_,G3.out.trans (F2.out.trans (F3.out.mono (Nat.le_trans (Nat.le_trans Df G3.out.size) F2.out.size)))⟩
       ·rw [G1.out,Al];rfl
       ·rw [HX.out];exact G5.out
       ·rw [AE,← Al]
        exact ek (n:=W.heap.size) HJ.out F1.out F3.out
      case measure=>
       have e1:=G6.out
       have e2:=G7.out
       simp only [intOf]
       rw [e1,e2]
       simp
     ·have F1:=Lib.hid Sd
      clear Sd
      gi_wp2
      refine bodyPost_ret (results_none rfl _ _ _) rfl ?_
      exact ⟨⟨_,rfl⟩, .inr ⟨_,G8.out,F1.out⟩⟩
  ·obtain rfl:k=ws.length:=by omega
   gi_wp2
   go_end0
   exact ⟨⟨_,rfl⟩, .inl ⟨_,rfl,HK.out⟩⟩
end Go.Proofs.YtclpadlpcfnfmaaGreat.Am
end

section
namespace Go.Proofs.YtclpadlpcfnfmaaGreat.Am
open Go.AM Go.AM.Pure Go.RowKit Go.Shelf Go.Lib
open Go.Proofs
attribute [local go_sem] Oper.semAt_some
set_option maxRecDepth 100000
def VM (W W':World):Prop:=∀ (k:Nat) (cur:Array Value) (y:Nat×Nat),W.heap[k]? = some (.cells cur 67 y)→W'.heap[k]? = some (.cells cur 67 y)
def Ov (n₀:Nat) (W W':World):Prop:=Below n₀ W W'∧VM W W'
theorem Ov.trans {n₀:Nat} {A B C:World} (h:Ov n₀ A B) (k:Ov n₀ B C):Ov n₀ A C:=⟨h.1.trans k.1,fun i cur y hi=>k.2 i cur y (h.2 i cur y hi)⟩
theorem Ov.refl (n₀:Nat) (A:World):Ov n₀ A A:=⟨Below.refl _ _,fun _ _ _ h=>h⟩
def Ls (ss:List (Int×Int)) (k:Nat):List Int:=BF (ss.take k)
theorem fL (ss:List (Int×Int)) {k:Nat} (hk:k<ss.length):Ls ss (k+1)=Ls ss k++(List.range (ss[k].2-ss[k].1).toNat).map fun (j:Nat)=>ss[k].1+(j:Int):=by
 unfold Ls BF
 rw [List.take_succ_eq_append_getElem hk,List.flatMap_append]
 simp
theorem Zyq (ss:List (Int×Int)) {k n:Nat} (h:k≤n) (hn:n≤ss.length):Ls ss k <+:Ls ss n:=by
 induction h with
 | refl=>exact List.prefix_refl _
 | step h ih=>rw [fL ss (by omega)];exact (ih (by omega)).trans (List.prefix_append _ _)
theorem Ysn (ss:List (Int×Int)) {k j:Nat} (hk:k<ss.length) (hj:j<(ss[k].2-ss[k].1).toNat):
  (Ls ss k++(List.range j).map (fun (j:Nat)=>ss[k].1+(j:Int)))++[ss[k].1+(j:Int)] <+:Ls ss ss.length:=by
 refine List.IsPrefix.trans ?_ (Zyq ss (show k+1≤ss.length by omega) (Ah _))
 rw [fL ss hk,Al,List.prefix_append_right_inj,← List.map_singleton (f:=fun (j:Nat)=>ss[k].1+(j:Int)),← AE,← List.range_succ]
 obtain ⟨r,hr⟩:∃ r,(ss[k].2-ss[k].1).toNat=(j+1)+r:=⟨_,(Nat.add_sub_cancel' hj).symm⟩
 rw [hr,List.range_add,AE]
 exact List.prefix_append _ _
def Yb5 (n₀:Nat) (ss:List (Int×Int)) (J:List Int→World→Prop) (W:World) (i:Value) (wr:World):Prop:=
 ∃ k:Nat,k≤ss.length∧i = .int .i64 k∧J (Ls ss k) wr∧Below n₀ W wr
def InS (n₀ Bs:Nat) (lo hi:Int) (ps:List Int) (J:List Int→World→Prop) (W:World) (v:Value) (wr:World):Prop:=
 ∃ (j:Nat) (y:Int),v = .int .i64 y∧y=lo+(j:Int)∧j≤(hi-lo).toNat∧J (ps++(List.range j).map fun (j:Nat)=>lo+(j:Int)) wr∧Below n₀ W wr∧wr.heap[Bs]? = some (.cells #[.int .i64 lo, .int .i64 hi] 67 (0,0))
set_option maxHeartbeats 4000000 in
theorem Zdv (n:Nat) (hn:1≤n) (l Bx n₀ b off cap:Nat) (ss:List (Int×Int)) (hl:ss.length≤4294967296) (hb:b<n₀) (J Jx:List Int→World→Prop)
  (c9:∀ s∈ss,-9223372036854775808≤s.1∧s.2≤9223372036854775807)
  (hY:∀ pre x W,J pre W→pre++[x] <+:Ls ss ss.length→YieldAt Fence.wide (n-1) Tryz.prog l #[.int .i64 x] W fun e W'=>
   (e = .returned (.bool true)∧J (pre++[x]) W'∧Ov n₀ W W')∨(e = .returned (.bool false)∧Jx (pre++[x]) W'))
  (W:World) (Df:n₀≤W.heap.size) (hJ:AbidesFrom W.heap.size J) (PS:W.cell? ⟨Bx,1,none⟩=some (.slice (some ⟨b,off,none⟩) ss.length cap))
  (hc:∀ k (h:k<ss.length),W.cell? ⟨b,off+k*2,none⟩=some (.int .i64 ss[k].1)∧W.cell? ⟨b,off+k*2+1,none⟩=some (.int .i64 ss[k].2)) (h0:J [] W):
  CallsIn Fence.wide n Tryz.prog 87 #[.func (.yield l) #[] #[], .pointer (some ⟨Bx,0,none⟩)] W (Th (Ls ss ss.length) J Jx):=by
 have C4:Fence.wide.round=none:=rfl
 have HC:=Lib.hid hc
 have HF:=Lib.hid c9
 have HY:=Lib.hid hY
 have HJ:=Lib.hid hJ
 clear hc c9 hY hJ
 refine callsIn_of_wp Tryz.func87 rfl trivial ?_ C4
 simp only [Tryz.ntmps87,List.size_toArray,Aj,List.length_nil,Nat.reduceAdd,Nat.reduceSub,Array.replicate_succ,Array.replicate_zero,List.push_toArray,List.append_toArray,AH,List.cons_append]
 gi_wp2
 gi_loopw [9] (fun i wr=>Yb5 n₀ ss J W i wr) (fun i _=>ss.length-(intOf i).toNat)
 case atStart=>exact ⟨0,Nat.zero_le _,rfl,h0,Below.refl _ _⟩
 case round=>
  obtain ⟨k,hk,rfl,Lr,Dz⟩:=hrel
  have HK:=Lib.hid Lr
  have HL:=Lib.hid Dz
  clear Lr Dz
  by_cases AO:k<ss.length
  ·obtain ⟨lo,MK⟩:∃ x,ss[k].1=x:=⟨_,rfl⟩
   obtain ⟨hi,Uk⟩:∃ x,ss[k].2=x:=⟨_,rfl⟩
   obtain ⟨H8,B2⟩:=HC.out k AO
   have Yj5:wr.cell? ⟨b,off+k*2,none⟩=some (.int .i64 lo):=by rw [← MK];exact (HL.out.cell (p:=⟨b,off+k*2,none⟩) hb).trans H8
   have Yk5:wr.cell? ⟨b,off+k*2+1,none⟩=some (.int .i64 hi):=by rw [← Uk];exact (HL.out.cell (p:=⟨b,off+k*2+1,none⟩) hb).trans B2
   have hw0: -9223372036854775808≤lo∧hi≤9223372036854775807:=by rw [← MK,← Uk];exact HF.out _ (Aq _)
   obtain ⟨cO,cP⟩:=hw0
   have HX:=Lib.hid (And.intro MK Uk)
   clear MK Uk H8 B2
   gi_wp2
   have H6:Hid (J (Ls ss k) (wr.alloc (.cells #[.int .i64 lo, .int .i64 hi] 67))):=Lib.hid (ek (n:=W.heap.size) HJ.out HK.out ((Below.refl _ wr).alloc (Ah _) _))
   obtain ⟨wo,rfl⟩:∃ wo:World,wo=wr:=⟨_,rfl⟩
   gi_loopw [5] (fun v wq=>InS n₀ wo.heap.size lo hi (Ls ss k) J W v wq) (fun v _=>(hi-intOf v).toNat)
   case atStart=>
    refine ⟨0,lo,rfl,by simp,Nat.zero_le _,by simpa using H6.out,HL.out.alloc (Nat.le_trans Df HL.out.size) _,heap_alloc_new wo _⟩
   case round=>
    obtain ⟨j,y,rfl,hy,hj,PU,Dz,Lb⟩:=hrel
    have hcb:wr.cell? ⟨wo.heap.size,1,none⟩=some (.int .i64 hi):=by rw [cell_of_row wr _ 1 _ 67 (0,0) Lb];rfl
    have ZO:y<hi→j<(hi-lo).toNat:=fun h=>by omega
    by_cases Zei:y<hi
    ·have HM:=Ysn ss AO (j:=j) (by rw [HX.out.1,HX.out.2];exact ZO Zei)
     obtain ⟨fn,tmps,assign,body,hyd,hR⟩:=HY.out _ y _ PU (by have:=HM;rw [HX.out.1,← hy] at this;exact this)
     have Yu5:lo≤y:=by omega
     have G1:=Lib.hid hy
     have G2:=Lib.hid HM
     have G3:=Lib.hid Dz
     have G4:=Lib.hid Lb
     have G5:=Lib.hid (ZO Zei)
     clear hy HM Dz Lb PU ZO hj
     gi_wp2
     refine hR.mono ?_
     rintro e W3 (⟨rfl,SK,SL⟩ | ⟨rfl,Sd⟩)
     ·have F1:=Lib.hid SK
      have F2:=Lib.hid SL
      clear SK SL
      gi_wp2
      go_roundw
      case rel=>
       refine ⟨j+1,y+1,rfl,by rw [G1.out];push_cast;omega,G5.out,?_,G3.out.trans F2.out.1,F2.out.2 _ _ _ G4.out⟩
       have:=F1.out
       rw [G1.out,Al,← List.map_singleton (f:=fun (j:Nat)=>lo+(j:Int)),← AE,← List.range_succ] at this
       exact this
      case measure=>simp only [intOf];omega
     ·have F1:=Lib.hid Sd
      clear Sd
      gi_wp2
      refine bodyPost_ret (results_none rfl _ _ _) rfl ?_
      refine ⟨⟨_,rfl⟩, .inr ⟨_,?_,F1.out⟩⟩
      have:=G2.out
      rw [HX.out.1,← G1.out] at this
      exact this
    ·have G1:=Lib.hid hy
     have G2:=Lib.hid PU
     have G3:=Lib.hid Dz
     have hjj:j=(hi-lo).toNat:=by omega
     have G4:=Lib.hid hjj
     clear hy PU Dz Lb ZO hj hjj
     gi_wp2
     go_roundw
     case rel=>
      refine ⟨k+1,by omega,by go_num,?_,G3.out⟩
      rw [fL ss AO,HX.out.1,HX.out.2,← G4.out]
      exact G2.out
     case measure=>simp [intOf];omega
  ·obtain rfl:k=ss.length:=by omega
   gi_wp2
   go_end0
   exact ⟨⟨_,rfl⟩, .inl ⟨_,rfl,HK.out⟩⟩
end Go.Proofs.YtclpadlpcfnfmaaGreat.Am
end

section
namespace Go.Proofs.YtclpadlpcfnfmaaGreat.Am
open Go.AM Go.AM.Pure Go.RowKit Go.Shelf Go.Lib
open Go.Proofs
attribute [local go_sem] Oper.semAt_some
set_option maxRecDepth 100000
set_option maxHeartbeats 1000000 in
theorem Zao (n:Nat) (l Bx:Nat) (a:Option Addr) (cap:Nat) (J Jx:List Int→World→Prop) (W:World) (PS:W.cell? ⟨Bx,2,none⟩=some (.slice a 0 cap)) (h0:J [] W):
  CallsIn Fence.wide n Tryz.prog 84 #[.func (.yield l) #[] #[], .pointer (some ⟨Bx,0,none⟩)] W (Th [] J Jx):=by
 have C4:Fence.wide.round=none:=rfl
 refine callsIn_of_wp Tryz.func84 rfl trivial ?_ C4
 simp only [Tryz.ntmps84,List.size_toArray,Aj,List.length_nil,Nat.reduceAdd,Nat.reduceSub,Array.replicate_succ,Array.replicate_zero,List.push_toArray,List.append_toArray,AH,List.cons_append]
 gi_wp2
 gi_loopw [9] (fun i wr=>i = .int .i64 0∧J [] wr) (fun _ _=>0)
 case atStart=>exact ⟨rfl,h0⟩
 case round=>
  obtain ⟨rfl,Lr⟩:=hrel
  gi_wp2
  go_end0
  exact ⟨⟨_,rfl⟩, .inl ⟨_,rfl,Lr⟩⟩
set_option maxHeartbeats 1000000 in
theorem Zbo (n:Nat) (l Bx:Nat) (a:Option Addr) (cap:Nat) (J Jx:List Int→World→Prop) (W:World) (PS:W.cell? ⟨Bx,1,none⟩=some (.slice a 0 cap)) (h0:J [] W):
  CallsIn Fence.wide n Tryz.prog 87 #[.func (.yield l) #[] #[], .pointer (some ⟨Bx,0,none⟩)] W (Th [] J Jx):=by
 have C4:Fence.wide.round=none:=rfl
 refine callsIn_of_wp Tryz.func87 rfl trivial ?_ C4
 simp only [Tryz.ntmps87,List.size_toArray,Aj,List.length_nil,Nat.reduceAdd,Nat.reduceSub,Array.replicate_succ,Array.replicate_zero,List.push_toArray,List.append_toArray,AH,List.cons_append]
 gi_wp2
 gi_loopw [9] (fun i wr=>i = .int .i64 0∧J [] wr) (fun _ _=>0)
 case atStart=>exact ⟨rfl,h0⟩
 case round=>
  obtain ⟨rfl,Lr⟩:=hrel
  gi_wp2
  go_end0
  exact ⟨⟨_,rfl⟩, .inl ⟨_,rfl,Lr⟩⟩
set_option maxHeartbeats 1000000 in
theorem Zlm (n:Nat) (l Bs:Nat) (a:Option Addr) (cap:Nat) (J Jx:List Int→World→Prop) (W:World) (hBs:W.cell? ⟨Bs,0,none⟩=some (.slice a 0 cap)) (h0:J [] W):
  CallsIn Fence.wide n Tryz.prog 149 #[.func (.yield l) #[] #[], .pointer (some ⟨Bs,0,none⟩)] W (Th [] J Jx):=by
 have C4:Fence.wide.round=none:=rfl
 refine callsIn_of_wp Tryz.func149 rfl trivial ?_ C4
 simp only [Tryz.ntmps149,List.size_toArray,Aj,List.length_nil,Nat.reduceAdd,Nat.reduceSub,Array.replicate_succ,Array.replicate_zero,List.push_toArray,List.append_toArray,AH,List.cons_append]
 gi_wp2
 gi_loopw [7] (fun i wr=>i = .int .i64 0∧J [] wr) (fun _ _=>0)
 case atStart=>exact ⟨rfl,h0⟩
 case round=>
  obtain ⟨rfl,Lr⟩:=hrel
  gi_wp2
  go_end0
  exact ⟨⟨_,rfl⟩, .inl ⟨_,rfl,Lr⟩⟩
theorem Zs6 {ok0:Nat→Nat→Prop} {w:World} {N:Nat} {ss:List (Int×Int)} {V:Value} (h:RepD ok0 w (.sl Pj) ss [V]) (BE:∀ b o,ok0 b o→b<N):
  (ss=[]∧∃ a cap,V = .slice a 0 cap)∨∃ b off cap,V = .slice (some ⟨b,off,none⟩) ss.length cap∧b<N∧∀ (k:Nat) (h:k<ss.length),w.cell? ⟨b,off+k*2,none⟩=some (.int .i64 ss[k].1)∧w.cell? ⟨b,off+k*2+1,none⟩=some (.int .i64 ss[k].2):=by
 obtain ⟨a,n,cap,hv,CM,hn,CL,hc⟩:=h
 cases hv
 have Ug:ss.length=n:=CM
 subst Ug
 have B2:∀ (k:Nat) (h:k<ss.length),∃ A:Addr,a=some A∧A.spot=none∧ok0 A.block (A.off+(k*2+0))∧w.cell? ⟨A.block,A.off+(k*2+0),none⟩=some (.int .i64 ss[k].1)∧w.cell? ⟨A.block,A.off+(k*2+1),none⟩=some (.int .i64 ss[k].2):=by
  intro k hk
  obtain ⟨A,hA,hs,ys,⟨c1,c2,rfl,h1,h2⟩,B4⟩:=hc k ss[k] (Ap hk)
  simp only [RepD] at h1 h2
  subst h1
  subst h2
  exact ⟨A,hA,hs,(B4 0 _ rfl).1,(B4 0 _ rfl).2,(B4 1 _ rfl).2⟩
 cases ss with
 | nil=>exact .inl ⟨rfl,a,cap,rfl⟩
 | cons u us=>
  obtain ⟨A,hA,hs,ho,_⟩:=B2 0 (by simp)
  subst hA
  obtain ⟨Ab,Ao,As⟩:=A
  dsimp only at hs
  subst hs
  refine .inr ⟨Ab,Ao,cap,rfl,BE _ _ ho,fun k hk=>?_⟩
  obtain ⟨A',DR,_,_,h1,h2⟩:=B2 k hk
  cases DR
  exact ⟨h1,h2⟩
abbrev T1:Ty:= .pair (.int .i64) (.pair (.sl Pj) (.pair (.sl (.int .i64)) (.sl (.int .i64))))
def encI (x:Int):Array Value:=#[Value.int .i64 x]
def Uf (n n₀ g:Nat) (lb:Array Value) (ps:List Int) (w:World):Prop:=
 ∀ (l:Nat) (J Jx:List Int→World→Prop) (W:World),Below w.heap.size w W→AbidesFrom W.heap.size J→AbidesFrom W.heap.size Jx→
  (∀ pre x W1,J pre W1→pre++[x] <+:ps→YieldAt Fence.wide (n-1) Tryz.prog l (encI x) W1 fun e W'=>
   (e = .returned (.bool true)∧J (pre++[x]) W'∧Ov n₀ W1 W')∨(e = .returned (.bool false)∧Jx (pre++[x]) W'))→
  J [] W→CallsIn Fence.wide n Tryz.prog g (#[.func (.yield l) #[] #[]]++lb) W (Th ps J Jx)
theorem Uf.stops {n n₀ g:Nat} {lb:Array Value} {ps:List Int} {w:World} (h:Uf n n₀ g lb ps w):
  SeqStopsK Fence.wide n Tryz.prog g lb (fun x:{ x:Int // x∈ps }=>encI x.1) (Ov n₀) (fun ys=>ys.map (·.1)=ps) (fun pre=>pre.map (·.1) <+:ps) ps.length w:=by
 intro l J Jx W hW hJ hJx hY h0
 have ab:∀ {K:List { x:Int // x∈ps }→World→Prop},AbidesFrom W.heap.size K→AbidesFrom W.heap.size fun pre W=>∃ p:List { x:Int // x∈ps },p.map (·.1)=pre∧K p W:=
  fun hK s A B row ⟨p,hp,hk⟩ hg hr=>⟨p,hp,hK p A B row hk hg hr⟩
 refine (h l (fun pre W=>∃ p:List { x:Int // x∈ps },p.map (·.1)=pre∧J p W) (fun pre W=>∃ p:List { x:Int // x∈ps },p.map (·.1)=pre∧Jx p W) W hW (ab hJ) (ab hJx) ?_ ⟨[],rfl,h0⟩).mono ?_
 ·rintro pre x W1 ⟨p,rfl,hp⟩ hpx
  have hx:x∈ps:=hpx.subset (by simp)
  refine (hY p ⟨x,hx⟩ W1 hp (by have:=hpx.length_le;simp at this;omega)).mono ?_
  rintro e W' (⟨h1,h2,h3⟩ | ⟨h1,h2⟩)
  ·exact .inl ⟨h1,⟨_,by simp,h2⟩,h3⟩
  ·exact .inr ⟨h1,⟨_,by simp,h2⟩⟩
 ·rintro e W' ⟨hv,⟨ys,rfl,p,hp,hj⟩ | ⟨pre,HM,p,rfl,hj⟩⟩
  ·exact ⟨hv, .inl ⟨p,hp,hj⟩⟩
  ·exact ⟨hv, .inr ⟨p,HM,hj⟩⟩
theorem Yp1 {ok0:Nat→Nat→Prop} (n:Nat) (hn:1≤n) (Bx n₀:Nat) (V:Value) (ws ps:List Int) (w:World) (Df:n₀≤w.heap.size) (hl:ws.length≤1024) (BE:∀ b o,ok0 b o→b<n₀) (hr:RepD ok0 w (.sl (.int .i64)) ws [V]) (hp:LD 0 ws=some ps)
  (XI:Bx<w.heap.size) (PS:w.cell? ⟨Bx,2,none⟩=some V):Uf n n₀ 84 #[.pointer (some ⟨Bx,0,none⟩)] ps w:=fun l J Jx W hW hJ _ hY h0=>by
 obtain ⟨rfl,K0⟩:=zX hp
 have CP:=(hW.cell (p:=⟨Bx,2,none⟩) XI).trans PS
 rcases gq hr BE with ⟨rfl,a,cap,rfl⟩ | ⟨b,off,cap,rfl,h1,h2,h3,h4⟩
 ·exact Zao n l Bx a cap J Jx W CP h0
 ·exact Zcv n hn l Bx n₀ b off cap ws hl h1 h2 h3 J Jx K0 (fun pre x W hj AO=>(hY pre x W hj AO).mono fun e W' h=>h.imp_left fun ⟨h1,h2,h3⟩=>⟨h1,h2,h3.1⟩) W (Nat.le_trans Df hW.size) hJ CP
   (fun k hk=>(hW.cell (p:=⟨b,off+k,none⟩) (Nat.lt_of_lt_of_le h3 Df)).trans (h4 k hk)) h0
theorem Yr1 {ok0:Nat→Nat→Prop} (n:Nat) (hn:1≤n) (Bx n₀:Nat) (V:Value) (ss:List (Int×Int)) (w:World) (Df:n₀≤w.heap.size) (hl:ss.length≤4294967296) (BE:∀ b o,ok0 b o→b<n₀) (hr:RepD ok0 w (.sl Pj) ss [V])
  (c9:∀ s∈ss,-9223372036854775808≤s.1∧s.2≤9223372036854775807) (XI:Bx<w.heap.size) (PS:w.cell? ⟨Bx,1,none⟩=some V):Uf n n₀ 87 #[.pointer (some ⟨Bx,0,none⟩)] (BF ss) w:=fun l J Jx W hW hJ _ hY h0=>by
 have CP:=(hW.cell (p:=⟨Bx,1,none⟩) XI).trans PS
 have CE:BF ss=Ls ss ss.length:=by unfold Ls;rw [Ar]
 rw [CE] at hY ⊢
 rcases Zs6 hr BE with ⟨rfl,a,cap,rfl⟩ | ⟨b,off,cap,rfl,h3,h4⟩
 ·exact Zbo n l Bx a cap J Jx W CP h0
 ·exact Zdv n hn l Bx n₀ b off cap ss hl h3 J Jx c9 hY W (Nat.le_trans Df hW.size) hJ CP
   (fun k hk=>⟨(hW.cell (p:=⟨b,off+k*2,none⟩) (Nat.lt_of_lt_of_le h3 Df)).trans (h4 k hk).1,(hW.cell (p:=⟨b,off+k*2+1,none⟩) (Nat.lt_of_lt_of_le h3 Df)).trans (h4 k hk).2⟩) h0
theorem Yq1 {ok0:Nat→Nat→Prop} (n:Nat) (hn:1≤n) (Bx n₀:Nat) (V:Value) (zs:List Int) (w:World) (Df:n₀≤w.heap.size) (hl:zs.length≤4294967296) (BE:∀ b o,ok0 b o→b<n₀) (hr:RepD ok0 w (.sl (.int .i64)) zs [V])
  (XI:Bx<w.heap.size) (PS:w.cell? ⟨Bx,0,none⟩=some V):Uf n n₀ 149 #[.pointer (some ⟨Bx,0,none⟩)] zs w:=fun l J Jx W hW hJ hJx hY h0=>by
 have CP:=(hW.cell (p:=⟨Bx,0,none⟩) XI).trans PS
 rcases gq hr BE with ⟨rfl,a,cap,rfl⟩ | ⟨b,off,cap,rfl,h1,h2,h3,h4⟩
 ·exact Zlm n l Bx a cap J Jx W CP h0
 ·have hcz:∀ j,j<zs.length→w.cell? ⟨b,off+j,none⟩=some (.int .i64 (zs[j]?.getD 0)):=fun j hj=>by
   have:=h4 j hj
   rw [Ax] at this
   exact this
  have hb:=(Below.mono hW Df)
  refine (Zxq Fence.wide n trivial rfl hn l Bx n₀ b off zs.length cap zs (by omega) h3 J Jx (fun pre x W hj AO=>(hY pre x W hj (by rw [tc] at AO;exact AO)).mono fun e W' h=>h.imp_left fun ⟨h1,h2,h3⟩=>⟨h1,h2,h3.1⟩) W CP
   (fun j hj=>(hb.cell (p:=⟨b,off+j,none⟩) h3).trans (hcz j hj)) h0).mono ?_
  rintro e W' ⟨he,⟨ys,rfl,hj⟩ | ⟨pre,⟨k,hk,rfl⟩,hj⟩⟩
  ·exact ⟨he, .inl ⟨_,tc zs,hj⟩⟩
  ·exact ⟨he, .inr ⟨_,by rw [Zev zs hk];exact List.take_prefix _ _,hj⟩⟩
end Go.Proofs.YtclpadlpcfnfmaaGreat.Am
end

section
namespace Go.Proofs.YtclpadlpcfnfmaaGreat.Am
open Go.AM Go.AM.Pure Go.RowKit Go.Shelf Go.Lib
open Go.Proofs
attribute [local go_sem] Oper.semAt_some
set_option maxRecDepth 100000
abbrev QH:Ty:= .pair (.int .i64) (.pair (.int .i64) .str)
theorem fK (s:ByteArray) (y:List (Int×(Int×ByteArray))×Int) (w:World) (hF:Kj s=some y):
  Calls Tryz.prog 39 #[.string s] w fun e w'=>(∃ a n c,RepD (SJ (fun _ _=>False) w w') w' (.sl QH) y.1 [.slice a n c]∧e = .returned (.tuple #[.slice a n c, .int .i64 y.2]))∧Below w.heap.size w w':=by
 refine (Tv (ps:=[.str]) (rs:=[(.sl QH,[]),(.int .i64,[])]) (x:=(s,())) (y:=y) (F:=fun x=>Kj x.1) Zoe hF (ok0:=fun _ _=>False) (vs:=[.string s]) (z:=0) ⟨rfl,Nat.zero_le _⟩ (fun _ _ h=>h.elim) ⟨[.string s],_,rfl,rfl,rfl⟩).mono ?_
 rintro e W' ⟨⟨us,⟨cs,r,h1,h2,cs2,h3,h4⟩,rfl⟩,hb⟩
 simp only [RepD] at h4
 subst h4
 subst h3
 obtain ⟨a,n,c,rfl,h5⟩:=h2
 subst h1
 exact ⟨⟨a,n,c,⟨a,n,c,rfl,h5⟩,rfl⟩,hb⟩
def NX (ok0:Nat→Nat→Prop) (w:World) (x:Int×(List (Int×Int)×(List Int×List Int))) (V1 V2 V3:Value):Prop:=
 RepD ok0 w (.sl Pj) x.2.1 [V1]∧RepD ok0 w (.sl (.int .i64)) x.2.2.1 [V2]∧RepD ok0 w (.sl (.int .i64)) x.2.2.2 [V3]
theorem pT {ok0:Nat→Nat→Prop} {w:World} {x:Int×(List (Int×Int)×(List Int×List Int))} {V1 V2 V3:Value} (h:NX ok0 w x V1 V2 V3):RepD ok0 w T1 x [.int .i64 x.1,V1,V2,V3]:=
 ⟨[.int .i64 x.1],_,rfl,rfl,[V1],_,rfl,h.1,[V2],_,rfl,h.2.1,h.2.2⟩
theorem Zsq {ok0:Nat→Nat→Prop} {w:World} {x:Int×(List (Int×Int)×(List Int×List Int))} {cs:List Value} (h:RepD ok0 w T1 x cs):
  ∃ a1 n1 c1 a2 n2 c2 a3 n3 c3,cs=[.int .i64 x.1, .slice a1 n1 c1, .slice a2 n2 c2, .slice a3 n3 c3]∧NX ok0 w x (.slice a1 n1 c1) (.slice a2 n2 c2) (.slice a3 n3 c3):=by
 obtain ⟨k1,k2,rfl,h1,k3,k4,rfl,h2,k5,k6,rfl,h3,h4⟩:=h
 simp only [RepD] at h1
 subst h1
 obtain ⟨a1,n1,c1,rfl,JN⟩:=h2
 obtain ⟨a2,n2,c2,rfl,Nj⟩:=h3
 obtain ⟨a3,n3,c3,rfl,h4'⟩:=h4
 exact ⟨a1,n1,c1,a2,n2,c2,a3,n3,c3,rfl,⟨a1,n1,c1,rfl,JN⟩,⟨a2,n2,c2,rfl,Nj⟩,⟨a3,n3,c3,rfl,h4'⟩⟩
theorem ta {ok0:Nat→Nat→Prop} {V1 V2 V3:Value} (x:Int×(List (Int×Int)×(List Int×List Int))) (m r:Int) (w:World) (BE:∀ b o,ok0 b o→b<w.heap.size) (hr:NX ok0 w x V1 V2 V3) (hF:KK x m=some r):
  Calls Tryz.prog 40 #[.agg #[.int .i64 x.1,V1,V2,V3], .int .i64 m] w fun e w'=>e = .returned (.int .i64 r)∧Below w.heap.size w w':=by
 refine (Tv (ps:=[T1, .int .i64]) (rs:=[(.int .i64,[])]) (x:=(x,m,())) (y:=r) (F:=fun x=>KK x.1 x.2.1) Zri hF (vs:=[.agg #[.int .i64 x.1,V1,V2,V3], .int .i64 m]) (z:=0) ⟨rfl,Nat.zero_le _⟩ BE ⟨_,_,rfl,pT hr,[.int .i64 m],_,rfl,rfl,rfl⟩).mono ?_
 rintro e W' ⟨⟨us,⟨cs,h1,h2⟩,rfl⟩,hb⟩
 simp only [RepD] at h2
 subst h2
 subst h1
 exact ⟨rfl,hb⟩
theorem qT {ok0:Nat→Nat→Prop} {V1 V2 V3:Value} (x:Int×(List (Int×Int)×(List Int×List Int))) (r:Int) (w:World) (BE:∀ b o,ok0 b o→b<w.heap.size) (hr:NX ok0 w x V1 V2 V3) (hF:KJ x=some r):
  Calls Tryz.prog 41 #[.agg #[.int .i64 x.1,V1,V2,V3]] w fun e w'=>e = .returned (.int .i64 r)∧Below w.heap.size w w':=by
 refine (Tv (ps:=[T1]) (rs:=[(.int .i64,[])]) (x:=(x,())) (y:=r) (F:=fun x=>KJ x.1) Zni hF (vs:=[.agg #[.int .i64 x.1,V1,V2,V3]]) (z:=0) ⟨rfl,Nat.zero_le _⟩ BE ⟨_,_,rfl,pT hr,rfl⟩).mono ?_
 rintro e W' ⟨⟨us,⟨cs,h1,h2⟩,rfl⟩,hb⟩
 simp only [RepD] at h2
 subst h2
 subst h1
 exact ⟨rfl,hb⟩
def Zwq (n n₀:Nat) (ps:List Int) (w:World) (e:Ending) (w':World):Prop:=
 ∃ g lb,e = .returned (.func (.func g) #[] lb)∧Below w.heap.size w w'∧(∀ args w,(callFunc g args).run Tryz.prog w = .ok (.enter g args) w)∧Uf n n₀ g lb ps w'
theorem Zvq {ok0:Nat→Nat→Prop} (n:Nat) (hn:1≤n) (n₀:Nat) {a1 a2 a3:Option Addr} {l1 l2 l3 c1 c2 c3:Nat} (x:Int×(List (Int×Int)×(List Int×List Int))) (ps:List Int) (w:World) (Df:n₀≤w.heap.size) (BE:∀ b o,ok0 b o→b<n₀)
  (hr:NX ok0 w x (.slice a1 l1 c1) (.slice a2 l2 c2) (.slice a3 l3 c3)) (hF:NG x=some ps) (Ek:ps.length≤4294967296):
  Calls Tryz.prog 42 #[.agg #[.int .i64 x.1, .slice a1 l1 c1, .slice a2 l2 c2, .slice a3 l3 c3]] w (Zwq n n₀ ps w):=by
 have Dz:Below w.heap.size w (w.alloc (.cells #[.int .i64 x.1, .slice a1 l1 c1, .slice a2 l2 c2, .slice a3 l3 c3] 31)):=(Below.refl _ _).alloc (Ah _) _
 have mE:∀ b o,ok0 b o→b<w.heap.size:=fun b o h=>Nat.lt_of_lt_of_le (BE b o h) Df
 have Bu:w.heap.size<(w.alloc (.cells #[.int .i64 x.1, .slice a1 l1 c1, .slice a2 l2 c2, .slice a3 l3 c3] 31)).heap.size:=by simp
 have Lb:=heap_alloc_new w (.cells #[.int .i64 x.1, .slice a1 l1 c1, .slice a2 l2 c2, .slice a3 l3 c3] 31)
 obtain ⟨Lk,IA,Q4⟩:=hr
 unfold NG at hF
 by_cases h2:x.1=2
 ·rw [show AR x.1 2=true from beq_iff_eq.2 h2] at hF
  dsimp only [cond] at hF
  cases hg:decide (x.2.2.1.length≤1024) with
  | false=>rw [hg] at hF;cases hF
  | true=>
   rw [hg] at hF
   rw [h2] at Dz Bu Lb ⊢
   refine (callsIn_wide (n:=3)).1 ((Zp6 Fence.wide 3 trivial rfl (by omega) a1 a2 a3 l1 l2 l3 c1 c2 c3 w).mono ?_)
   rintro e w' ⟨rfl,rfl⟩
   exact ⟨84,_,rfl,Dz,Tryz.call84,Yp1 n hn w.heap.size n₀ _ x.2.2.1 ps _ (Nat.le_trans Df Dz.size) (Ak hg) BE (OK IA mE Dz) hF Bu (by rw [cell_of_row _ _ _ _ _ _ Lb];rfl)⟩
 ·rw [show AR x.1 2=false from beq_false_of_ne h2] at hF
  dsimp only [cond] at hF
  by_cases h3:x.1=3
  ·rw [show AR x.1 3=true from beq_iff_eq.2 h3] at hF
   cases hF
   rw [h3] at Dz Bu Lb ⊢
   have lr:=Dz.alloc Dz.size (.cells #[.slice a3 l3 c3] 29)
   refine (callsIn_wide (n:=3)).1 ((Zq6 Fence.wide 3 trivial trivial rfl (by omega) a1 a2 a3 l1 l2 l3 c1 c2 c3 w).mono ?_)
   rintro e w' ⟨rfl,rfl⟩
   have Da:=heap_alloc_new (w.alloc (.cells #[.int .i64 3, .slice a1 l1 c1, .slice a2 l2 c2, .slice a3 l3 c3] 31)) (.cells #[.slice a3 l3 c3] 29)
   rw [World.size_alloc] at Da
   exact ⟨149,_,rfl,lr,Tryz.call149,Yq1 n hn (w.heap.size+1) n₀ _ x.2.2.2 _ (Nat.le_trans Df lr.size) Ek BE (OK Q4 mE lr) (by simp) (by rw [cell_of_row _ _ _ _ _ _ Da];rfl)⟩
  ·rw [show AR x.1 3=false from beq_false_of_ne h3] at hF
   dsimp only [cond] at hF
   cases hg:(decide (x.2.1.length≤4294967296) && x.2.1.all (fun s=>Bq (-9223372036854775808) s.1 && Bq s.2 9223372036854775807)) with
   | false=>rw [hg] at hF;cases hF
   | true=>
    rw [hg] at hF
    cases hF
    rw [Bool.and_eq_true,List.all_eq_true] at hg
    refine (callsIn_wide (n:=3)).1 ((Zr6 Fence.wide 3 trivial rfl (by omega) x.1 h2 h3 a1 a2 a3 l1 l2 l3 c1 c2 c3 w).mono ?_)
    rintro e w' ⟨rfl,rfl⟩
    refine ⟨87,_,rfl,Dz,Tryz.call87,Yr1 n hn w.heap.size n₀ _ x.2.1 _ (Nat.le_trans Df Dz.size) (Ak hg.1) BE (OK Lk mE Dz) (fun s hs=>?_) Bu (by rw [cell_of_row _ _ _ _ _ _ Lb];rfl)⟩
    have:=hg.2 s hs
    rw [Bool.and_eq_true] at this
    exact ⟨Ak this.1,Ak this.2⟩
end Go.Proofs.YtclpadlpcfnfmaaGreat.Am
end
