import Derived.RangeFuncNested
import Derived.RangeFuncBound
import Derived.RangeFuncCalls
import Derived.Shelf.RegionOpen
import Derived.Test.YtclpadlpcfnfmaaGreatSHandA
import Derived.Deep.RegionHeld3
section
/- The iterators over a list of places. (values1_in .. values_stops: the worked proof of slices.Values, turned to this seat.) -/
namespace Go.Proofs.YtclpadlpcfnfmaaGreat.Am
open Go.Proofs.Tryz
open Go.AM Go.AM.Pure Go.RowKit Go.Shelf Go.Lib
open Go.Proofs
attribute [local go_sem] Oper.semAt_some
def upto {α:Type} (f:Nat->α) (k:Nat):List α:=(List.range k).map f
theorem ae {α:Type} (f:Nat->α) (k:Nat):upto f (k+1)=upto f k++[f k]:=by simp [upto,List.range_succ]
theorem Zhx {α:Type} (f:Nat->α) {k n:Nat} (h:k<=n):upto f k <+:upto f n:=by
 induction h with
 | refl=>exact List.prefix_refl _
 | step _ ih=>rw [ae];exact ih.trans (List.prefix_append _ _)
theorem xr (zs:List Int):upto (λ j=>zs[j]?.getD 0) zs.length=zs:=by
 apply List.ext_getElem
 ·simp [upto]
 ·intro i h1 h2;simp [upto,h2]
set_option maxRecDepth 100000 in
set_option maxHeartbeats 2000000 in
theorem Zr0 (F:Fence) (n:Nat) (h7:F.fn 149) (DF:F.round=none) (hn:1<=n) (l Bs n₀ b off len cap:Nat) (zs:List Int) (Xki:len*8<=140737488351232) (hb:b<n₀) (J Jx:List Int->World->Prop)
  (hY:∀ pre x W,J pre W->pre++[x] <+:upto (λ j=>zs[j]?.getD 0) len->YieldAt F (n-1) prog l #[.int .i64 x] W λ e W'=>
   (e = .returned (.bool true)/\J (pre++[x]) W'/\Below n₀ W W')\/(e = .returned (.bool false)/\Jx (pre++[x]) W'))
  (W:World) (hBs:W.cell? ⟨Bs,0,none⟩=some (.slice (some ⟨b,off,none⟩) len cap)) (hc:∀ j,j<len->W.cell? ⟨b,off+j,none⟩=some (.int .i64 (zs[j]?.getD 0))) (h0:J [] W):
  CallsIn F n prog 149 #[.func (.yield l) #[] #[], .pointer (some ⟨Bs,0,none⟩)] W λ e W'=>(∃ v,e = .returned v)/\
   ((∃ ys,ys=upto (λ j=>zs[j]?.getD 0) len/\J ys W')\/(∃ pre,(∃ k,k<=len/\pre=upto (λ j=>zs[j]?.getD 0) k)/\Jx pre W')):=by
 refine callsIn_of_wp func149 rfl h7 ?_ DF;simp only [ntmps149,List.size_toArray,Aw,List.length_nil,Nat.reduceAdd,Nat.reduceSub,Array.replicate_succ,Array.replicate_zero,List.push_toArray,List.append_toArray,AS,List.cons_append];gi_wp2
 gi_loopw [7] (λ i wr=>∃ k:Nat,k<=len/\i = .int .i64 k/\J (upto (λ j=>zs[j]?.getD 0) k) wr/\Below n₀ W wr)
  (λ i _=>len-(intOf i).toNat)
 case atStart=>exact ⟨0,Nat.zero_le _,rfl,h0,Below.refl _ _⟩
 case round=>
  obtain ⟨k,hk,rfl,Mu,JL⟩:=hrel;have hcx:k<len->wr.cell? ⟨b,off+k,none⟩=some (.int .i64 (zs[k]?.getD 0)):=λ h=>(JL.cell (p:=⟨b,off+k,none⟩) hb).trans (hc k h)
  by_cases AY:k<len
  ·obtain ⟨fn,tmps,assign,body,hy,hR⟩:=hY _ (zs[k]?.getD 0) wr Mu (by rw [<- ae];exact Zhx _ AY);have Xxi:=hcx AY;gi_wp2;refine hR.mono ?_;rintro e W3 (⟨rfl,T7,T8⟩ | ⟨rfl,Tx⟩)
   ·-- THE ROUND GOES ON
    gi_wp2
    go_roundw
    case rel=>exact ⟨k+1,Ad,Ah,by rw [ae];exact T7,JL.trans T8⟩
    case measure=>simp [intOf];omega
   ·gi_wp2;refine bodyPost_ret (results_none rfl _ _ _) rfl ?_;exact ⟨⟨_,rfl⟩, .inr ⟨_,⟨k+1,Ad,(ae _ _).symm⟩,Tx⟩⟩
  ·obtain rfl:k=len:=Ad
   gi_wp2
   go_end0
   exact ⟨⟨_,rfl⟩, .inl ⟨_,rfl,Mu⟩⟩
theorem Zb5 (zs:List Int) {k:Nat} (hk:k<=zs.length):upto (λ j=>zs[j]?.getD 0) k=zs.take k:=by
 apply List.ext_getElem
 ·simp [upto,hk]
 ·intro i h1 h2;have:i<zs.length:=by simp [upto] at h1;omega
  simp [upto,this]
def Ints (n₀:Nat) (W:World) (sv:Value) (zs:List Int):Prop:=
 (sv = .slice none 0 0/\zs=[])\/∃ b off cap,sv = .slice (some ⟨b,off,none⟩) zs.length cap/\b<n₀/\∀ j,j<zs.length->W.cell? ⟨b,off+j,none⟩=some (.int .i64 (zs[j]?.getD 0))
theorem Ints.below {n₀:Nat} {A B:World} (h:Below n₀ A B) {sv:Value} {zs:List Int}:Ints n₀ A sv zs->Ints n₀ B sv zs
 | .inl e=> .inl e
 | .inr ⟨b,off,cap,e,hb,hc⟩=> .inr ⟨b,off,cap,e,hb,λ j hj=>(h.cell (p:=⟨b,off+j,none⟩) hb).trans (hc j hj)⟩
set_option maxHeartbeats 1000000 in
theorem Zc5 (F:Fence) (n:Nat) (h5:F.fn 86) (DF:F.round=none) (a:Option Addr) (len cap:Nat) (w:World):
  CallsIn F n prog 86 #[.slice a len cap] w λ e w'=>e = .returned (.func (.func 149) #[] #[.pointer (some ⟨w.heap.size,0,none⟩)])/\w'=w.alloc (.cells #[.slice a len cap] 29):=by
 refine callsIn_of_wp func86 rfl h5 ?_ DF;simp only [ntmps86,List.size_toArray,Aw,List.length_nil,Nat.reduceAdd,Nat.reduceSub,Array.replicate_succ,Array.replicate_zero,List.push_toArray,List.append_toArray,AS,List.cons_append];gi_wp2
 go_ret
 exact ⟨rfl,rfl⟩
end Go.Proofs.YtclpadlpcfnfmaaGreat.Am
end

section
namespace Go.Proofs.YtclpadlpcfnfmaaGreat.Am
open Go.Proofs.Tryz
open Go.AM Go.AM.Pure Go.RowKit Go.Shelf Go.Lib
open Go.Proofs
attribute [local go_sem] Oper.semAt_some
set_option maxRecDepth 100000
set_option maxHeartbeats 1000000 in
theorem Yrg (F:Fence) (n:Nat) (Zg:F.fn 42) (h86:F.fn 86) (DF:F.round=none) (hn:2<=n) (a1 a2 a:Option Addr) (l1 l2 len c1 c2 cap:Nat) (w:World):
  CallsIn F n prog 42 #[.agg #[.int .i64 3, .slice a1 l1 c1, .slice a2 l2 c2, .slice a len cap]] w λ e w'=>e = .returned (.func (.func 149) #[] #[.pointer (some ⟨w.heap.size+1,0,none⟩)])/\w'=(w.alloc (.cells #[.int .i64 3, .slice a1 l1 c1, .slice a2 l2 c2, .slice a len cap] 31)).alloc (.cells #[.slice a len cap] 29):=by
 refine callsIn_of_wp func42 rfl Zg ?_ DF;simp only [ntmps42,List.size_toArray,Aw,List.length_nil,Nat.reduceAdd,Nat.reduceSub,Array.replicate_succ,Array.replicate_zero,List.push_toArray,List.append_toArray,AS,List.cons_append];have h1:1<=n:=Ad
 gi_wp2_with (gi_at_call 86;refine (Zc5 F (n-1) h86 DF _ _ _ _).mono ?_;rintro e w' ⟨rfl,rfl⟩)
 go_ret
 exact ⟨rfl,rfl⟩
set_option maxHeartbeats 1000000 in
theorem Yqg (F:Fence) (n:Nat) (Zg:F.fn 42) (DF:F.round=none) (hn:2<=n) (a1 a2 a:Option Addr) (l1 l2 len c1 c2 cap:Nat) (w:World):
  CallsIn F n prog 42 #[.agg #[.int .i64 2, .slice a1 l1 c1, .slice a2 l2 c2, .slice a len cap]] w λ e w'=>e = .returned (.func (.func 84) #[] #[.pointer (some ⟨w.heap.size,0,none⟩)])/\w'=w.alloc (.cells #[.int .i64 2, .slice a1 l1 c1, .slice a2 l2 c2, .slice a len cap] 31):=by
 refine callsIn_of_wp func42 rfl Zg ?_ DF;simp only [ntmps42,List.size_toArray,Aw,List.length_nil,Nat.reduceAdd,Nat.reduceSub,Array.replicate_succ,Array.replicate_zero,List.push_toArray,List.append_toArray,AS,List.cons_append];gi_wp2
 go_ret
 exact ⟨rfl,rfl⟩
set_option maxHeartbeats 1000000 in
theorem Ysg (F:Fence) (n:Nat) (Zg:F.fn 42) (DF:F.round=none) (hn:2<=n) (form:Int) (eX:¬ form=2) (hf3:¬ form=3) (a1 a2 a:Option Addr) (l1 l2 len c1 c2 cap:Nat) (w:World):
  CallsIn F n prog 42 #[.agg #[.int .i64 form, .slice a1 l1 c1, .slice a2 l2 c2, .slice a len cap]] w λ e w'=>e = .returned (.func (.func 87) #[] #[.pointer (some ⟨w.heap.size,0,none⟩)])/\w'=w.alloc (.cells #[.int .i64 form, .slice a1 l1 c1, .slice a2 l2 c2, .slice a len cap] 31):=by
 refine callsIn_of_wp func42 rfl Zg ?_ DF;simp only [ntmps42,List.size_toArray,Aw,List.length_nil,Nat.reduceAdd,Nat.reduceSub,Array.replicate_succ,Array.replicate_zero,List.push_toArray,List.append_toArray,AS,List.cons_append];gi_wp2
 go_ret
 exact ⟨rfl,rfl⟩
end Go.Proofs.YtclpadlpcfnfmaaGreat.Am
end

section
namespace Go.Proofs.YtclpadlpcfnfmaaGreat.Am
open Go.Proofs.Tryz
open Go.AM Go.AM.Pure Go.RowKit Go.Shelf Go.Lib
open Go.Proofs
attribute [local go_sem] Oper.semAt_some
set_option maxRecDepth 100000
theorem Zgx {A B:World} (h:Below A.heap.size A B):A.grownBy B none:=⟨h.os,h.tape,h.output,h.size,λ k hk _=>h.block k hk⟩
theorem hX {β:Type} {n:Nat} {J:β->World->Prop} (hJ:AbidesFrom n J) {s:β} {A B:World} (h:J s A) (hb:Below A.heap.size A B):J s B:=hJ s A B none h (Zgx hb) (λ r e=>by cases e)
def Xbi (n₀:Nat) (ws:List Int) (J:List Int->World->Prop) (W:World) (i:Value) (wr:World):Prop:=
 ∃ k:Nat,k<=ws.length/\i = .int .i64 k/\J (II ws k) wr/\Below n₀ W wr
def InJ (n₀:Nat) (ws:List Int) (k:Nat) (J:List Int->World->Prop) (W:World) (v:Value) (wr:World):Prop:=
 ∃ (b:Int) (done rest:List Int),v = .int .i64 b/\F7 70 (ws.getD k 0) 0=some (done++rest)/\Ch (ws.getD k 0) b rest/\J (II ws k++done.map λ b=>64*(k:Int)+b) wr/\Below n₀ W wr
def UE (ps:List Int) (J Jx:List Int->World->Prop) (e:Ending) (W':World):Prop:=
 (∃ v,e = .returned v)/\((∃ ys,ys=ps/\J ys W')\/(∃ pre,pre <+:ps/\Jx pre W'))
theorem Zt0 (ws:List Int) {k n:Nat} (h:k<=n):II ws k <+:II ws n:=by
 induction h with
 | refl=>exact List.prefix_refl _
 | step _ ih=>rw [UF];exact ih.trans (List.prefix_append _ _)
theorem Yvz (ws:List Int) {k:Nat} (hk:k<ws.length) {done rest:List Int} {d:Int} (h:F7 70 (ws.getD k 0) 0=some (done++d :: rest)):
  (II ws k++done.map (λ b=>64*(k:Int)+b))++[64*(k:Int)+d] <+:II ws ws.length:=by
 refine List.IsPrefix.trans ?_ (Zt0 ws (show k+1<=ws.length by omega));rw [UF,h];simp
set_option maxHeartbeats 4000000 in
theorem Zz4 (n:Nat) (hn:1<=n) (l Bx n₀ b off cap:Nat) (ws:List Int) (hl:ws.length<=1024) (Gf:ws.length<=cap) (KP:cap<=9223372036854775807) (hb:b<n₀) (J Jx:List Int->World->Prop)
  (L5:∀ k,k<ws.length->∃ bs,F7 70 (ws.getD k 0) 0=some bs)
  (hY:∀ pre x W,J pre W->pre++[x] <+:II ws ws.length->YieldAt Fence.wide (n-1) prog l #[.int .i64 x] W λ e W'=>
   (e = .returned (.bool true)/\J (pre++[x]) W'/\Below n₀ W W')\/(e = .returned (.bool false)/\Jx (pre++[x]) W'))
  (W:World) (Du:n₀<=W.heap.size) (hJ:AbidesFrom W.heap.size J) (QV:W.cell? ⟨Bx,2,none⟩=some (.slice (some ⟨b,off,none⟩) ws.length cap))
  (hc:∀ k,k<ws.length->W.cell? ⟨b,off+k,none⟩=some (.int .i64 (ws.getD k 0))) (h0:J [] W):
  CallsIn Fence.wide n prog 84 #[.func (.yield l) #[] #[], .pointer (some ⟨Bx,0,none⟩)] W (UE (II ws ws.length) J Jx):=by
 have DF:Fence.wide.round=none:=rfl;have HC:=Lib.hid hc;have HB:=Lib.hid L5;have HY:=Lib.hid hY;have HJ:=Lib.hid hJ;clear hc L5 hY hJ;refine callsIn_of_wp func84 rfl trivial ?_ DF;simp only [ntmps84,List.size_toArray,Aw,List.length_nil,Nat.reduceAdd,Nat.reduceSub,Array.replicate_succ,Array.replicate_zero,List.push_toArray,List.append_toArray,AS,List.cons_append];gi_wp2
 gi_loopw [9] (λ i wr=>Xbi n₀ ws J W i wr) (λ i _=>ws.length-(intOf i).toNat)
 case atStart=>exact ⟨0,Nat.zero_le _,rfl,h0,Below.refl _ _⟩
 case round=>
  obtain ⟨k,hk,rfl,Mu,D9⟩:=hrel;have HK:=Lib.hid Mu;have HL:=Lib.hid D9;clear Mu D9;by_cases AY:k<ws.length
  ·obtain ⟨x,hx⟩:∃ x,ws.getD k 0=x:=⟨_,rfl⟩;obtain ⟨bs,Ey⟩:=HB.out k AY;obtain ⟨c,JH,KQ⟩:=dK Ey (Au _);have D0:wr.cell? ⟨b,off+k,none⟩=some (.int .i64 x):=by rw [<- hx];exact (HL.out.cell (p:=⟨b,off+k,none⟩) hb).trans (HC.out k AY)
   rw [hx] at JH;have HX:=Lib.hid hx;have H1:=Lib.hid JH;have H2:=Lib.hid KQ;have H3:=Lib.hid Ey;clear hx JH KQ Ey
   gi_wp2_with (refine ⟨trivial,?_⟩;gi_at_call 85;refine (callsIn_wide.2 (aI x 0 c _ H1.out)).mono ?_;rintro e w2 ⟨rfl,DE⟩;have H4:=Lib.hid DE;clear DE)
   have H5:Hid (Below n₀ W w2):=Lib.hid (HL.out.trans (H4.out.mono (Nat.le_trans Du HL.out.size)));have H6:Hid (J (II ws k) w2):=Lib.hid (hX (n:=W.heap.size) HJ.out HK.out H4.out);obtain ⟨wo,fH⟩:∃ wo:World,wo=w2:=⟨_,rfl⟩
   gi_loopw [5] (λ v wq=>InJ n₀ ws k J W v wq) (λ v _=>dL x (intOf v))
   case atStart=>
    refine ⟨c,[],bs,rfl,H3.out,H2.out,?_,H5.out⟩;simp only [List.map_nil,AE];exact H6.out
   case round=>
    obtain ⟨d,done,rest,rfl,Ey,KQ,QW,D9⟩:=hrel;rw [HX.out] at KQ;have Tz:=aJ KQ;rcases KQ with ⟨rfl,hd⟩ | ⟨m,Tg,hm,rfl,h0d,BH,JL⟩
    ·have G1:=Lib.hid Ey;have G2:=Lib.hid QW;have G3:=Lib.hid D9;clear Ey QW D9 Tz fH;gi_wp2
     go_roundw
     case rel=>
      refine ⟨k+1,Ad,by go_num,?_,G3.out⟩;rw [UF,G1.out,AE];exact G2.out
     case measure=>simp [intOf];omega
    ·have IQ:=Yvz ws AY Ey;obtain ⟨c2,Mi,TA⟩:=dK JL hm;have YQ:=aJ TA;obtain ⟨fn,tmps,assign,body,hy,hR⟩:=HY.out _ (64*(k:Int)+d) _ QW IQ;have G1:=Lib.hid Ey;have G3:=Lib.hid D9;have G4:=Lib.hid Mi;have G5:=Lib.hid TA;have G6:=Lib.hid Tz;have G7:=Lib.hid YQ;have G8:=Lib.hid IQ;clear Ey D9 Tz JL Mi TA YQ IQ fH QW;gi_wp2;refine hR.mono ?_;rintro e W3 (⟨rfl,T7,T8⟩ | ⟨rfl,Tx⟩)
     ·have F1:=Lib.hid T7;have F2:=Lib.hid T8;clear T7 T8
      gi_wp2_with (refine ⟨trivial,?_⟩;gi_at_call 85;refine (callsIn_wide.2 (aI x (d+1) c2 _ G4.out)).mono ?_;rintro e w6 ⟨rfl,Zf⟩;have F3:=Lib.hid Zf;clear Zf)
      go_roundw
      case rel=>
       refine ⟨c2,done++[d],Tg,rfl,?_,?_,?_,G3.out.trans (F2.out.trans (F3.out.mono (Nat.le_trans (Nat.le_trans Du G3.out.size) F2.out.size)))⟩
       ·rw [G1.out,AA];rfl
       ·rw [HX.out];exact G5.out
       ·rw [AG,<- AA];exact hX (n:=W.heap.size) HJ.out F1.out F3.out
      case measure=>
       have e1:=G6.out;have e2:=G7.out;simp only [intOf];rw [e1,e2];simp
     ·have F1:=Lib.hid Tx;clear Tx;gi_wp2;refine bodyPost_ret (results_none rfl _ _ _) rfl ?_;exact ⟨⟨_,rfl⟩, .inr ⟨_,G8.out,F1.out⟩⟩
  ·obtain rfl:k=ws.length:=Ad
   gi_wp2
   go_end0
   exact ⟨⟨_,rfl⟩, .inl ⟨_,rfl,HK.out⟩⟩
end Go.Proofs.YtclpadlpcfnfmaaGreat.Am
end

section
namespace Go.Proofs.YtclpadlpcfnfmaaGreat.Am
open Go.Proofs.Tryz
open Go.AM Go.AM.Pure Go.RowKit Go.Shelf Go.Lib
open Go.Proofs
attribute [local go_sem] Oper.semAt_some
set_option maxRecDepth 100000
def Xl (W W':World):Prop:=∀ (k:Nat) (cur:Array Value) (y:Nat×Nat),W.heap[k]? = some (.cells cur 67 y)->W'.heap[k]? = some (.cells cur 67 y)
def PE (n₀:Nat) (W W':World):Prop:=Below n₀ W W'/\Xl W W'
theorem PE.trans {n₀:Nat} {A B C:World} (h:PE n₀ A B) (k:PE n₀ B C):PE n₀ A C:=⟨h.1.trans k.1,λ i cur y hi=>k.2 i cur y (h.2 i cur y hi)⟩
theorem PE.refl (n₀:Nat) (A:World):PE n₀ A A:=⟨Below.refl _ _,λ _ _ _ h=>h⟩
def Mv (ss:List (Int×Int)) (k:Nat):List Int:=Cf (ss.take k)
theorem jz (ss:List (Int×Int)) {k:Nat} (hk:k<ss.length):Mv ss (k+1)=Mv ss k++(List.range (ss[k].2-ss[k].1).toNat).map λ (j:Nat)=>ss[k].1+(j:Int):=by
 unfold Mv Cf;rw [List.take_succ_eq_append_getElem hk,List.flatMap_append];simp
theorem Zs0 (ss:List (Int×Int)) {k n:Nat} (h:k<=n) (hn:n<=ss.length):Mv ss k <+:Mv ss n:=by
 induction h with
 | refl=>exact List.prefix_refl _
 | step h ih=>rw [jz ss Ad];exact (ih Ad).trans (List.prefix_append _ _)
theorem Yuz (ss:List (Int×Int)) {k j:Nat} (hk:k<ss.length) (hj:j<(ss[k].2-ss[k].1).toNat):
  (Mv ss k++(List.range j).map (λ (j:Nat)=>ss[k].1+(j:Int)))++[ss[k].1+(j:Int)] <+:Mv ss ss.length:=by
 refine List.IsPrefix.trans ?_ (Zs0 ss (show k+1<=ss.length by omega) (Au _));rw [jz ss hk,AA,List.prefix_append_right_inj,<- List.map_singleton (f:=λ (j:Nat)=>ss[k].1+(j:Int)),<- AG,<- List.range_succ];obtain ⟨r,hr⟩:∃ r,(ss[k].2-ss[k].1).toNat=(j+1)+r:=⟨_,(Nat.add_sub_cancel' hj).symm⟩;rw [hr,List.range_add,AG];exact List.prefix_append _ _
def Xai (n₀:Nat) (ss:List (Int×Int)) (J:List Int->World->Prop) (W:World) (i:Value) (wr:World):Prop:=
 ∃ k:Nat,k<=ss.length/\i = .int .i64 k/\J (Mv ss k) wr/\Below n₀ W wr
def InS (n₀ Bs:Nat) (lo hi:Int) (ps:List Int) (J:List Int->World->Prop) (W:World) (v:Value) (wr:World):Prop:=
 ∃ (j:Nat) (y:Int),v = .int .i64 y/\y=lo+(j:Int)/\j<=(hi-lo).toNat/\J (ps++(List.range j).map λ (j:Nat)=>lo+(j:Int)) wr/\Below n₀ W wr/\wr.heap[Bs]? = some (.cells #[.int .i64 lo, .int .i64 hi] 67 (0,0))
set_option maxHeartbeats 4000000 in
theorem Za5 (n:Nat) (hn:1<=n) (l Bx n₀ b off cap:Nat) (ss:List (Int×Int)) (hl:ss.length<=4294967296) (hb:b<n₀) (J Jx:List Int->World->Prop)
  (fG:∀ s∈ss,-9223372036854775808<=s.1/\s.2<=9223372036854775807)
  (hY:∀ pre x W,J pre W->pre++[x] <+:Mv ss ss.length->YieldAt Fence.wide (n-1) prog l #[.int .i64 x] W λ e W'=>
   (e = .returned (.bool true)/\J (pre++[x]) W'/\PE n₀ W W')\/(e = .returned (.bool false)/\Jx (pre++[x]) W'))
  (W:World) (Du:n₀<=W.heap.size) (hJ:AbidesFrom W.heap.size J) (QV:W.cell? ⟨Bx,1,none⟩=some (.slice (some ⟨b,off,none⟩) ss.length cap))
  (hc:∀ k (h:k<ss.length),W.cell? ⟨b,off+k*2,none⟩=some (.int .i64 ss[k].1)/\W.cell? ⟨b,off+k*2+1,none⟩=some (.int .i64 ss[k].2)) (h0:J [] W):
  CallsIn Fence.wide n prog 87 #[.func (.yield l) #[] #[], .pointer (some ⟨Bx,0,none⟩)] W (UE (Mv ss ss.length) J Jx):=by
 have DF:Fence.wide.round=none:=rfl;have HC:=Lib.hid hc;have HF:=Lib.hid fG;have HY:=Lib.hid hY;have HJ:=Lib.hid hJ;clear hc fG hY hJ;refine callsIn_of_wp func87 rfl trivial ?_ DF;simp only [ntmps87,List.size_toArray,Aw,List.length_nil,Nat.reduceAdd,Nat.reduceSub,Array.replicate_succ,Array.replicate_zero,List.push_toArray,List.append_toArray,AS,List.cons_append];gi_wp2
 gi_loopw [9] (λ i wr=>Xai n₀ ss J W i wr) (λ i _=>ss.length-(intOf i).toNat)
 case atStart=>exact ⟨0,Nat.zero_le _,rfl,h0,Below.refl _ _⟩
 case round=>
  obtain ⟨k,hk,rfl,Mu,D9⟩:=hrel;have HK:=Lib.hid Mu;have HL:=Lib.hid D9;clear Mu D9;by_cases AY:k<ss.length
  ·obtain ⟨lo,NS⟩:∃ x,ss[k].1=x:=⟨_,rfl⟩;obtain ⟨hi,VI⟩:∃ x,ss[k].2=x:=⟨_,rfl⟩;obtain ⟨Ij,CB⟩:=HC.out k AY;have Xii:wr.cell? ⟨b,off+k*2,none⟩=some (.int .i64 lo):=by rw [<- NS];exact (HL.out.cell (p:=⟨b,off+k*2,none⟩) hb).trans Ij
   have Xji:wr.cell? ⟨b,off+k*2+1,none⟩=some (.int .i64 hi):=by rw [<- VI];exact (HL.out.cell (p:=⟨b,off+k*2+1,none⟩) hb).trans CB
   have VQ: -9223372036854775808<=lo/\hi<=9223372036854775807:=by rw [<- NS,<- VI];exact HF.out _ (Ay _)
   obtain ⟨fv,qJ⟩:=VQ;have HX:=Lib.hid (And.intro NS VI);clear NS VI Ij CB;gi_wp2;have H6:Hid (J (Mv ss k) (wr.alloc (.cells #[.int .i64 lo, .int .i64 hi] 67))):=Lib.hid (hX (n:=W.heap.size) HJ.out HK.out ((Below.refl _ wr).alloc (Au _) _));obtain ⟨wo,rfl⟩:∃ wo:World,wo=wr:=⟨_,rfl⟩
   gi_loopw [5] (λ v wq=>InS n₀ wo.heap.size lo hi (Mv ss k) J W v wq) (λ v _=>(hi-intOf v).toNat)
   case atStart=>
    refine ⟨0,lo,rfl,Ah,Nat.zero_le _,by simpa using H6.out,HL.out.alloc (Nat.le_trans Du HL.out.size) _,heap_alloc_new wo _⟩
   case round=>
    obtain ⟨j,y,rfl,hy,hj,QW,D9,Md⟩:=hrel;have hcb:wr.cell? ⟨wo.heap.size,1,none⟩=some (.int .i64 hi):=by rw [cell_of_row wr _ 1 _ 67 (0,0) Md];rfl
    have bP:y<hi->j<(hi-lo).toNat:=λ h=>by omega
    by_cases Zer:y<hi
    ·have IQ:=Yuz ss AY (j:=j) (by rw [HX.out.1,HX.out.2];exact bP Zer);obtain ⟨fn,tmps,assign,body,hyd,hR⟩:=HY.out _ y _ QW (by have:=IQ;rw [HX.out.1,<- hy] at this;exact this);have Xwi:lo<=y:=Ad
     have G1:=Lib.hid hy;have G2:=Lib.hid IQ;have G3:=Lib.hid D9;have G4:=Lib.hid Md;have G5:=Lib.hid (bP Zer);clear hy IQ D9 Md QW bP hj;gi_wp2;refine hR.mono ?_;rintro e W3 (⟨rfl,T7,T8⟩ | ⟨rfl,Tx⟩)
     ·have F1:=Lib.hid T7;have F2:=Lib.hid T8;clear T7 T8;gi_wp2
      go_roundw
      case rel=>
       refine ⟨j+1,y+1,rfl,by rw [G1.out];push_cast;omega,G5.out,?_,G3.out.trans F2.out.1,F2.out.2 _ _ _ G4.out⟩;have:=F1.out;rw [G1.out,AA,<- List.map_singleton (f:=λ (j:Nat)=>lo+(j:Int)),<- AG,<- List.range_succ] at this;exact this
      case measure=>simp only [intOf];omega
     ·have F1:=Lib.hid Tx;clear Tx;gi_wp2;refine bodyPost_ret (results_none rfl _ _ _) rfl ?_;refine ⟨⟨_,rfl⟩, .inr ⟨_,?_,F1.out⟩⟩;have:=G2.out;rw [HX.out.1,<- G1.out] at this;exact this
    ·have G1:=Lib.hid hy;have G2:=Lib.hid QW;have G3:=Lib.hid D9;have hjj:j=(hi-lo).toNat:=Ad
     have G4:=Lib.hid hjj;clear hy QW D9 Md bP hj hjj;gi_wp2
     go_roundw
     case rel=>
      refine ⟨k+1,Ad,by go_num,?_,G3.out⟩;rw [jz ss AY,HX.out.1,HX.out.2,<- G4.out];exact G2.out
     case measure=>simp [intOf];omega
  ·obtain rfl:k=ss.length:=Ad
   gi_wp2
   go_end0
   exact ⟨⟨_,rfl⟩, .inl ⟨_,rfl,HK.out⟩⟩
end Go.Proofs.YtclpadlpcfnfmaaGreat.Am
end

section
namespace Go.Proofs.YtclpadlpcfnfmaaGreat.Am
open Go.Proofs.Tryz
open Go.AM Go.AM.Pure Go.RowKit Go.Shelf Go.Lib
open Go.Proofs
attribute [local go_sem] Oper.semAt_some
set_option maxRecDepth 100000
set_option maxHeartbeats 1000000 in
theorem Zex (n:Nat) (l Bx:Nat) (a:Option Addr) (cap:Nat) (J Jx:List Int->World->Prop) (W:World) (QV:W.cell? ⟨Bx,2,none⟩=some (.slice a 0 cap)) (h0:J [] W):
  CallsIn Fence.wide n prog 84 #[.func (.yield l) #[] #[], .pointer (some ⟨Bx,0,none⟩)] W (UE [] J Jx):=by
 have DF:Fence.wide.round=none:=rfl;refine callsIn_of_wp func84 rfl trivial ?_ DF;simp only [ntmps84,List.size_toArray,Aw,List.length_nil,Nat.reduceAdd,Nat.reduceSub,Array.replicate_succ,Array.replicate_zero,List.push_toArray,List.append_toArray,AS,List.cons_append];gi_wp2
 gi_loopw [9] (λ i wr=>i = .int .i64 0/\J [] wr) (λ _ _=>0)
 case atStart=>exact ⟨rfl,h0⟩
 case round=>
  obtain ⟨rfl,Mu⟩:=hrel;gi_wp2
  go_end0
  exact ⟨⟨_,rfl⟩, .inl ⟨_,rfl,Mu⟩⟩
set_option maxHeartbeats 1000000 in
theorem Zfx (n:Nat) (l Bx:Nat) (a:Option Addr) (cap:Nat) (J Jx:List Int->World->Prop) (W:World) (QV:W.cell? ⟨Bx,1,none⟩=some (.slice a 0 cap)) (h0:J [] W):
  CallsIn Fence.wide n prog 87 #[.func (.yield l) #[] #[], .pointer (some ⟨Bx,0,none⟩)] W (UE [] J Jx):=by
 have DF:Fence.wide.round=none:=rfl;refine callsIn_of_wp func87 rfl trivial ?_ DF;simp only [ntmps87,List.size_toArray,Aw,List.length_nil,Nat.reduceAdd,Nat.reduceSub,Array.replicate_succ,Array.replicate_zero,List.push_toArray,List.append_toArray,AS,List.cons_append];gi_wp2
 gi_loopw [9] (λ i wr=>i = .int .i64 0/\J [] wr) (λ _ _=>0)
 case atStart=>exact ⟨rfl,h0⟩
 case round=>
  obtain ⟨rfl,Mu⟩:=hrel;gi_wp2
  go_end0
  exact ⟨⟨_,rfl⟩, .inl ⟨_,rfl,Mu⟩⟩
set_option maxHeartbeats 1000000 in
theorem Zev (n:Nat) (l Bs:Nat) (a:Option Addr) (cap:Nat) (J Jx:List Int->World->Prop) (W:World) (hBs:W.cell? ⟨Bs,0,none⟩=some (.slice a 0 cap)) (h0:J [] W):
  CallsIn Fence.wide n prog 149 #[.func (.yield l) #[] #[], .pointer (some ⟨Bs,0,none⟩)] W (UE [] J Jx):=by
 have DF:Fence.wide.round=none:=rfl;refine callsIn_of_wp func149 rfl trivial ?_ DF;simp only [ntmps149,List.size_toArray,Aw,List.length_nil,Nat.reduceAdd,Nat.reduceSub,Array.replicate_succ,Array.replicate_zero,List.push_toArray,List.append_toArray,AS,List.cons_append];gi_wp2
 gi_loopw [7] (λ i wr=>i = .int .i64 0/\J [] wr) (λ _ _=>0)
 case atStart=>exact ⟨rfl,h0⟩
 case round=>
  obtain ⟨rfl,Mu⟩:=hrel;gi_wp2
  go_end0
  exact ⟨⟨_,rfl⟩, .inl ⟨_,rfl,Mu⟩⟩
theorem Ytg {ok0:Nat->Nat->Prop} {w:World} {N:Nat} {ss:List (Int×Int)} {V:Value} (h:RepD ok0 w (.sl Qu) ss [V]) (B3:∀ b o,ok0 b o->b<N):
  (ss=[]/\∃ a cap,V = .slice a 0 cap)\/∃ b off cap,V = .slice (some ⟨b,off,none⟩) ss.length cap/\b<N/\∀ (k:Nat) (h:k<ss.length),w.cell? ⟨b,off+k*2,none⟩=some (.int .i64 ss[k].1)/\w.cell? ⟨b,off+k*2+1,none⟩=some (.int .i64 ss[k].2):=by
 obtain ⟨a,n,cap,hv,DG,hn,Ds,hc⟩:=h;cases hv;have VG:ss.length=n:=DG;subst VG;have CB:∀ (k:Nat) (h:k<ss.length),∃ A:Addr,a=some A/\A.spot=none/\ok0 A.block (A.off+(k*2+0))/\w.cell? ⟨A.block,A.off+(k*2+0),none⟩=some (.int .i64 ss[k].1)/\w.cell? ⟨A.block,A.off+(k*2+1),none⟩=some (.int .i64 ss[k].2):=by
  intro k hk;obtain ⟨A,hA,hs,ys,⟨c1,c2,rfl,h1,h2⟩,CU⟩:=hc k ss[k] (AD hk);simp only [RepD] at h1 h2;subst h1;subst h2;exact ⟨A,hA,hs,(CU 0 _ rfl).1,(CU 0 _ rfl).2,(CU 1 _ rfl).2⟩
 cases ss with
 | nil=>exact .inl ⟨rfl,a,cap,rfl⟩
 | cons u us=>
  obtain ⟨A,hA,hs,ho,_⟩:=CB 0 Ah;subst hA;obtain ⟨Ab,Ao,As⟩:=A;dsimp only at hs;subst hs;refine .inr ⟨Ab,Ao,cap,rfl,B3 _ _ ho,λ k hk=>?_⟩;obtain ⟨A',ED,_,_,h1,h2⟩:=CB k hk;cases ED;exact ⟨h1,h2⟩
abbrev Vo:Ty:= .pair (.int .i64) (.pair (.sl Qu) (.pair (.sl (.int .i64)) (.sl (.int .i64))))
def encI (x:Int):Array Value:=#[Value.int .i64 x]
def VF (n n₀ g:Nat) (lb:Array Value) (ps:List Int) (w:World):Prop:=
 ∀ (l:Nat) (J Jx:List Int->World->Prop) (W:World),Below w.heap.size w W->AbidesFrom W.heap.size J->AbidesFrom W.heap.size Jx->
  (∀ pre x W1,J pre W1->pre++[x] <+:ps->YieldAt Fence.wide (n-1) prog l (encI x) W1 λ e W'=>
   (e = .returned (.bool true)/\J (pre++[x]) W'/\PE n₀ W1 W')\/(e = .returned (.bool false)/\Jx (pre++[x]) W'))->
  J [] W->CallsIn Fence.wide n prog g (#[.func (.yield l) #[] #[]]++lb) W (UE ps J Jx)
theorem VF.stops {n n₀ g:Nat} {lb:Array Value} {ps:List Int} {w:World} (h:VF n n₀ g lb ps w):
  SeqStopsK Fence.wide n prog g lb (λ x:{ x:Int // x∈ps }=>encI x.1) (PE n₀) (λ ys=>ys.map (·.1)=ps) (λ pre=>pre.map (·.1) <+:ps) ps.length w:=by
 intro l J Jx W hW hJ hJx hY h0;have ab:∀ {K:List { x:Int // x∈ps }->World->Prop},AbidesFrom W.heap.size K->AbidesFrom W.heap.size λ pre W=>∃ p:List { x:Int // x∈ps },p.map (·.1)=pre/\K p W:=
  λ hK s A B row ⟨p,hp,hk⟩ hg hr=>⟨p,hp,hK p A B row hk hg hr⟩
 refine (h l (λ pre W=>∃ p:List { x:Int // x∈ps },p.map (·.1)=pre/\J p W) (λ pre W=>∃ p:List { x:Int // x∈ps },p.map (·.1)=pre/\Jx p W) W hW (ab hJ) (ab hJx) ?_ ⟨[],rfl,h0⟩).mono ?_
 ·rintro pre x W1 ⟨p,rfl,hp⟩ hpx;have hx:x∈ps:=hpx.subset Ah;refine (hY p ⟨x,hx⟩ W1 hp (by have:=hpx.length_le;simp at this;omega)).mono ?_;rintro e W' (⟨h1,h2,h3⟩ | ⟨h1,h2⟩)
  ·exact .inl ⟨h1,⟨_,Ah,h2⟩,h3⟩
  ·exact .inr ⟨h1,⟨_,Ah,h2⟩⟩
 ·rintro e W' ⟨hv,⟨ys,rfl,p,hp,hj⟩ | ⟨pre,IQ,p,rfl,hj⟩⟩
  ·exact ⟨hv, .inl ⟨p,hp,hj⟩⟩
  ·exact ⟨hv, .inr ⟨p,IQ,hj⟩⟩
theorem Xme {ok0:Nat->Nat->Prop} (n:Nat) (hn:1<=n) (Bx n₀:Nat) (V:Value) (ws ps:List Int) (w:World) (Du:n₀<=w.heap.size) (hl:ws.length<=1024) (B3:∀ b o,ok0 b o->b<n₀) (hr:RepD ok0 w (.sl (.int .i64)) ws [V]) (hp:ME 0 ws=some ps)
  (Ze:Bx<w.heap.size) (QV:w.cell? ⟨Bx,2,none⟩=some V):VF n n₀ 84 #[.pointer (some ⟨Bx,0,none⟩)] ps w:=λ l J Jx W hW hJ _ hY h0=>by
 obtain ⟨rfl,L5⟩:=Zsh hp;have EH:=(hW.cell (p:=⟨Bx,2,none⟩) Ze).trans QV;rcases jU hr B3 with ⟨rfl,a,cap,rfl⟩ | ⟨b,off,cap,rfl,h1,h2,h3,h4⟩
 ·exact Zex n l Bx a cap J Jx W EH h0
 ·exact Zz4 n hn l Bx n₀ b off cap ws hl h1 h2 h3 J Jx L5 (λ pre x W hj AY=>(hY pre x W hj AY).mono λ e W' h=>h.imp_left λ ⟨h1,h2,h3⟩=>⟨h1,h2,h3.1⟩) W (Nat.le_trans Du hW.size) hJ EH
   (λ k hk=>(hW.cell (p:=⟨b,off+k,none⟩) (Nat.lt_of_lt_of_le h3 Du)).trans (h4 k hk)) h0
theorem Xoe {ok0:Nat->Nat->Prop} (n:Nat) (hn:1<=n) (Bx n₀:Nat) (V:Value) (ss:List (Int×Int)) (w:World) (Du:n₀<=w.heap.size) (hl:ss.length<=4294967296) (B3:∀ b o,ok0 b o->b<n₀) (hr:RepD ok0 w (.sl Qu) ss [V])
  (fG:∀ s∈ss,-9223372036854775808<=s.1/\s.2<=9223372036854775807) (Ze:Bx<w.heap.size) (QV:w.cell? ⟨Bx,1,none⟩=some V):VF n n₀ 87 #[.pointer (some ⟨Bx,0,none⟩)] (Cf ss) w:=λ l J Jx W hW hJ _ hY h0=>by
 have EH:=(hW.cell (p:=⟨Bx,1,none⟩) Ze).trans QV;have CT:Cf ss=Mv ss ss.length:=by unfold Mv;rw [AB]
 rw [CT] at hY ⊢;rcases Ytg hr B3 with ⟨rfl,a,cap,rfl⟩ | ⟨b,off,cap,rfl,h3,h4⟩
 ·exact Zfx n l Bx a cap J Jx W EH h0
 ·exact Za5 n hn l Bx n₀ b off cap ss hl h3 J Jx fG hY W (Nat.le_trans Du hW.size) hJ EH
   (λ k hk=>⟨(hW.cell (p:=⟨b,off+k*2,none⟩) (Nat.lt_of_lt_of_le h3 Du)).trans (h4 k hk).1,(hW.cell (p:=⟨b,off+k*2+1,none⟩) (Nat.lt_of_lt_of_le h3 Du)).trans (h4 k hk).2⟩) h0
theorem Xne {ok0:Nat->Nat->Prop} (n:Nat) (hn:1<=n) (Bx n₀:Nat) (V:Value) (zs:List Int) (w:World) (Du:n₀<=w.heap.size) (hl:zs.length<=4294967296) (B3:∀ b o,ok0 b o->b<n₀) (hr:RepD ok0 w (.sl (.int .i64)) zs [V])
  (Ze:Bx<w.heap.size) (QV:w.cell? ⟨Bx,0,none⟩=some V):VF n n₀ 149 #[.pointer (some ⟨Bx,0,none⟩)] zs w:=λ l J Jx W hW hJ hJx hY h0=>by
 have EH:=(hW.cell (p:=⟨Bx,0,none⟩) Ze).trans QV;rcases jU hr B3 with ⟨rfl,a,cap,rfl⟩ | ⟨b,off,cap,rfl,h1,h2,h3,h4⟩
 ·exact Zev n l Bx a cap J Jx W EH h0
 ·have hcz:∀ j,j<zs.length->w.cell? ⟨b,off+j,none⟩=some (.int .i64 (zs[j]?.getD 0)):=λ j hj=>by
   have:=h4 j hj;rw [AK] at this;exact this
  have hb:=(Below.mono hW Du)
  refine (Zr0 Fence.wide n trivial rfl hn l Bx n₀ b off zs.length cap zs Ad h3 J Jx (λ pre x W hj AY=>(hY pre x W hj (by rw [xr] at AY;exact AY)).mono λ e W' h=>h.imp_left λ ⟨h1,h2,h3⟩=>⟨h1,h2,h3.1⟩) W EH
   (λ j hj=>(hb.cell (p:=⟨b,off+j,none⟩) h3).trans (hcz j hj)) h0).mono ?_
  rintro e W' ⟨he,⟨ys,rfl,hj⟩ | ⟨pre,⟨k,hk,rfl⟩,hj⟩⟩
  ·exact ⟨he, .inl ⟨_,xr zs,hj⟩⟩
  ·exact ⟨he, .inr ⟨_,by rw [Zb5 zs hk];exact List.take_prefix _ _,hj⟩⟩
end Go.Proofs.YtclpadlpcfnfmaaGreat.Am
end

section
namespace Go.Proofs.YtclpadlpcfnfmaaGreat.Am
open Go.Proofs.Tryz
open Go.AM Go.AM.Pure Go.RowKit Go.Shelf Go.Lib
open Go.Proofs
attribute [local go_sem] Oper.semAt_some
set_option maxRecDepth 100000
abbrev RL:Ty:= .pair (.int .i64) (.pair (.int .i64) .str)
theorem jy (s:ByteArray) (y:List (Int×(Int×ByteArray))×Int) (w:World) (hF:I7 s=some y):
  Calls prog 39 #[.string s] w λ e w'=>(∃ a n c,RepD (T6 (λ _ _=>False) w w') w' (.sl RL) y.1 [.slice a n c]/\e = .returned (.tuple #[.slice a n c, .int .i64 y.2]))/\Below w.heap.size w w':=by
 refine (UN (ps:=[.str]) (rs:=[(.sl RL,[]),(.int .i64,[])]) (x:=(s,())) (y:=y) (F:=λ x=>I7 x.1) Zon hF (ok0:=λ _ _=>False) (vs:=[.string s]) (z:=0) ⟨rfl,Nat.zero_le _⟩ (λ _ _ h=>h.elim) ⟨[.string s],_,rfl,rfl,rfl⟩).mono ?_;rintro e W' ⟨⟨us,⟨cs,r,h1,h2,cs2,h3,h4⟩,rfl⟩,hb⟩;simp only [RepD] at h4;subst h4;subst h3;obtain ⟨a,n,c,rfl,h5⟩:=h2;subst h1;exact ⟨⟨a,n,c,⟨a,n,c,rfl,h5⟩,rfl⟩,hb⟩
def O9 (ok0:Nat->Nat->Prop) (w:World) (x:Int×(List (Int×Int)×(List Int×List Int))) (V1 V2 V3:Value):Prop:=
 RepD ok0 w (.sl Qu) x.2.1 [V1]/\RepD ok0 w (.sl (.int .i64)) x.2.2.1 [V2]/\RepD ok0 w (.sl (.int .i64)) x.2.2.2 [V3]
theorem tL {ok0:Nat->Nat->Prop} {w:World} {x:Int×(List (Int×Int)×(List Int×List Int))} {V1 V2 V3:Value} (h:O9 ok0 w x V1 V2 V3):RepD ok0 w Vo x [.int .i64 x.1,V1,V2,V3]:=
 ⟨[.int .i64 x.1],_,rfl,rfl,[V1],_,rfl,h.1,[V2],_,rfl,h.2.1,h.2.2⟩
theorem Zm0 {ok0:Nat->Nat->Prop} {w:World} {x:Int×(List (Int×Int)×(List Int×List Int))} {cs:List Value} (h:RepD ok0 w Vo x cs):
  ∃ a1 n1 c1 a2 n2 c2 a3 n3 c3,cs=[.int .i64 x.1, .slice a1 n1 c1, .slice a2 n2 c2, .slice a3 n3 c3]/\O9 ok0 w x (.slice a1 n1 c1) (.slice a2 n2 c2) (.slice a3 n3 c3):=by
 obtain ⟨k1,k2,rfl,h1,k3,k4,rfl,h2,k5,k6,rfl,h3,h4⟩:=h;simp only [RepD] at h1;subst h1;obtain ⟨a1,n1,c1,rfl,Lh⟩:=h2;obtain ⟨a2,n2,c2,rfl,Ot⟩:=h3;obtain ⟨a3,n3,c3,rfl,h4'⟩:=h4;exact ⟨a1,n1,c1,a2,n2,c2,a3,n3,c3,rfl,⟨a1,n1,c1,rfl,Lh⟩,⟨a2,n2,c2,rfl,Ot⟩,⟨a3,n3,c3,rfl,h4'⟩⟩
theorem xq {ok0:Nat->Nat->Prop} {V1 V2 V3:Value} (x:Int×(List (Int×Int)×(List Int×List Int))) (m r:Int) (w:World) (B3:∀ b o,ok0 b o->b<w.heap.size) (hr:O9 ok0 w x V1 V2 V3) (hF:LP x m=some r):
  Calls prog 40 #[.agg #[.int .i64 x.1,V1,V2,V3], .int .i64 m] w λ e w'=>e = .returned (.int .i64 r)/\Below w.heap.size w w':=by
 refine (UN (ps:=[Vo, .int .i64]) (rs:=[(.int .i64,[])]) (x:=(x,m,())) (y:=r) (F:=λ x=>LP x.1 x.2.1) Zrr hF (vs:=[.agg #[.int .i64 x.1,V1,V2,V3], .int .i64 m]) (z:=0) ⟨rfl,Nat.zero_le _⟩ B3 ⟨_,_,rfl,tL hr,[.int .i64 m],_,rfl,rfl,rfl⟩).mono ?_;rintro e W' ⟨⟨us,⟨cs,h1,h2⟩,rfl⟩,hb⟩;simp only [RepD] at h2;subst h2;subst h1;exact ⟨rfl,hb⟩
theorem uX {ok0:Nat->Nat->Prop} {V1 V2 V3:Value} (x:Int×(List (Int×Int)×(List Int×List Int))) (r:Int) (w:World) (B3:∀ b o,ok0 b o->b<w.heap.size) (hr:O9 ok0 w x V1 V2 V3) (hF:LO x=some r):
  Calls prog 41 #[.agg #[.int .i64 x.1,V1,V2,V3]] w λ e w'=>e = .returned (.int .i64 r)/\Below w.heap.size w w':=by
 refine (UN (ps:=[Vo]) (rs:=[(.int .i64,[])]) (x:=(x,())) (y:=r) (F:=λ x=>LO x.1) Znr hF (vs:=[.agg #[.int .i64 x.1,V1,V2,V3]]) (z:=0) ⟨rfl,Nat.zero_le _⟩ B3 ⟨_,_,rfl,tL hr,rfl⟩).mono ?_;rintro e W' ⟨⟨us,⟨cs,h1,h2⟩,rfl⟩,hb⟩;simp only [RepD] at h2;subst h2;subst h1;exact ⟨rfl,hb⟩
def Zq0 (n n₀:Nat) (ps:List Int) (w:World) (e:Ending) (w':World):Prop:=
 ∃ g lb,e = .returned (.func (.func g) #[] lb)/\Below w.heap.size w w'/\(∀ args w,(callFunc g args).run prog w = .ok (.enter g args) w)/\VF n n₀ g lb ps w'
theorem Zp0 {ok0:Nat->Nat->Prop} (n:Nat) (hn:1<=n) (n₀:Nat) {a1 a2 a3:Option Addr} {l1 l2 l3 c1 c2 c3:Nat} (x:Int×(List (Int×Int)×(List Int×List Int))) (ps:List Int) (w:World) (Du:n₀<=w.heap.size) (B3:∀ b o,ok0 b o->b<n₀)
  (hr:O9 ok0 w x (.slice a1 l1 c1) (.slice a2 l2 c2) (.slice a3 l3 c3)) (hF:OS x=some ps) (ER:ps.length<=4294967296):
  Calls prog 42 #[.agg #[.int .i64 x.1, .slice a1 l1 c1, .slice a2 l2 c2, .slice a3 l3 c3]] w (Zq0 n n₀ ps w):=by
 have D9:Below w.heap.size w (w.alloc (.cells #[.int .i64 x.1, .slice a1 l1 c1, .slice a2 l2 c2, .slice a3 l3 c3] 31)):=(Below.refl _ _).alloc (Au _) _;have p8:∀ b o,ok0 b o->b<w.heap.size:=λ b o h=>Nat.lt_of_lt_of_le (B3 b o h) Du
 have BL:w.heap.size<(w.alloc (.cells #[.int .i64 x.1, .slice a1 l1 c1, .slice a2 l2 c2, .slice a3 l3 c3] 31)).heap.size:=Ah
 have Md:=heap_alloc_new w (.cells #[.int .i64 x.1, .slice a1 l1 c1, .slice a2 l2 c2, .slice a3 l3 c3] 31);obtain ⟨JN,Jj,TY⟩:=hr;unfold OS at hF;by_cases h2:x.1=2
 ·rw [show A9 x.1 2=true from beq_iff_eq.2 h2] at hF;dsimp only [cond] at hF;cases hg:decide (x.2.2.1.length<=1024) with
  | false=>rw [hg] at hF;cases hF
  | true=>
   rw [hg] at hF;rw [h2] at D9 BL Md ⊢;refine (callsIn_wide (n:=3)).1 ((Yqg Fence.wide 3 trivial rfl Ad a1 a2 a3 l1 l2 l3 c1 c2 c3 w).mono ?_);rintro e w' ⟨rfl,rfl⟩;exact ⟨84,_,rfl,D9,call84,Xme n hn w.heap.size n₀ _ x.2.2.1 ps _ (Nat.le_trans Du D9.size) (Az hg) B3 (PW Jj p8 D9) hF BL (by rw [cell_of_row _ _ _ _ _ _ Md];rfl)⟩
 ·rw [show A9 x.1 2=false from beq_false_of_ne h2] at hF;dsimp only [cond] at hF;by_cases h3:x.1=3
  ·rw [show A9 x.1 3=true from beq_iff_eq.2 h3] at hF;cases hF;rw [h3] at D9 BL Md ⊢;have oT:=D9.alloc D9.size (.cells #[.slice a3 l3 c3] 29);refine (callsIn_wide (n:=3)).1 ((Yrg Fence.wide 3 trivial trivial rfl Ad a1 a2 a3 l1 l2 l3 c1 c2 c3 w).mono ?_);rintro e w' ⟨rfl,rfl⟩;have DE:=heap_alloc_new (w.alloc (.cells #[.int .i64 3, .slice a1 l1 c1, .slice a2 l2 c2, .slice a3 l3 c3] 31)) (.cells #[.slice a3 l3 c3] 29);rw [World.size_alloc] at DE;exact ⟨149,_,rfl,oT,call149,Xne n hn (w.heap.size+1) n₀ _ x.2.2.2 _ (Nat.le_trans Du oT.size) ER B3 (PW TY p8 oT) Ah (by rw [cell_of_row _ _ _ _ _ _ DE];rfl)⟩
  ·rw [show A9 x.1 3=false from beq_false_of_ne h3] at hF;dsimp only [cond] at hF;cases hg:(decide (x.2.1.length<=4294967296) && x.2.1.all (λ s=>BC (-9223372036854775808) s.1 && BC s.2 9223372036854775807)) with
   | false=>rw [hg] at hF;cases hF
   | true=>
    rw [hg] at hF;cases hF;rw [Bool.and_eq_true,List.all_eq_true] at hg;refine (callsIn_wide (n:=3)).1 ((Ysg Fence.wide 3 trivial rfl Ad x.1 h2 h3 a1 a2 a3 l1 l2 l3 c1 c2 c3 w).mono ?_);rintro e w' ⟨rfl,rfl⟩;refine ⟨87,_,rfl,D9,call87,Xoe n hn w.heap.size n₀ _ x.2.1 _ (Nat.le_trans Du D9.size) (Az hg.1) B3 (PW JN p8 D9) (λ s hs=>?_) BL (by rw [cell_of_row _ _ _ _ _ _ Md];rfl)⟩;have:=hg.2 s hs;rw [Bool.and_eq_true] at this;exact ⟨Az this.1,Az this.2⟩
end Go.Proofs.YtclpadlpcfnfmaaGreat.Am
end
