import Derived.Test.YtclpadlpcfnfmaaGreatAmPrim
import Derived.Test.YtclpadlpcfnfmaaGreatAmPrimW
import Derived.Sort.Grow
import Derived.Sort.EncStr
import Derived.Laws.AppendOwn
/- slices.Clone, Sort and Compact, out of what is known of their calls. -/
namespace Go.AM
open Go.RowKit (Below)
open Go.Sort (Holds putRow grow)
set_option linter.unusedSectionVars false
variable [Lay]
section
variable {P : Program} {f : FuncId} {w w' : World}
theorem pH {β:Type} [Inhabited β] [DecidableEq β] (l:List β):(Lib.compact l).length≤l.length:=by
 unfold Lib.compact Lib.compactUpTo
 rw [Ai]
 exact Nat.le_trans (List.length_filter_le _ _) (by rw [List.length_range];exact Ah _)
theorem T0 {e:Ty} (h:Kz e=true):e.sz=1:=by cases e <;> first | rfl | cases h
theorem zS {ok:Nat→Nat→Prop} {e:Ty} (h:Kz e=true) {l:List e.D} {cur:Array Value} (hr:J9 ok w e l cur) {i:Nat} {x:e.D} (hi:l[i]? = some x):cur[i]? = some (sv e x):=by
 obtain ⟨ys,hy,B4⟩:=hr i x hi
 have h1:=B4 0 (sv e x)
 rw [T0 h,Nat.mul_one,Nat.add_zero] at h1
 refine h1 ?_
 cases e with
 | int k=>simp only [RepD] at hy;subst hy;rfl
 | bool=>simp only [RepD] at hy;subst hy;rfl
 | str=>simp only [RepD] at hy;subst hy;rfl
 | _=>cases h
theorem zT {ok:Nat→Nat→Prop} {e:Ty} (h:Kz e=true) {l:List e.D} {cur:Array Value} (hr:∀ (i:Nat) (x:e.D),l[i]? = some x→cur[i]? = some (sv e x)):J9 ok w e l cur:=by
 intro i x hi
 refine ⟨[sv e x],(lq h x).1,fun j u hj=>?_⟩
 have SB:j=0:=by have:=(List.getElem?_eq_some_iff.1 hj).1;simp at this;exact this
 subst SB
 cases hj
 rw [T0 h,Nat.mul_one,Nat.add_zero]
 exact hr i x hi
variable {α : Type} [Inhabited α] {enc : α → Value} {e : Ty} {fr : e.D → α} {to : α → e.D}
theorem holds_of {ok:Nat→Nat→Prop} (Hm:Kz e=true) (L1:∀ x,sv e x=enc (fr x)) {b:Nat} {l:List e.D} {cur:Array Value} {T:TypeId} (hh:w.heap[b]? = some (.cells cur T (0,0))) (hr:J9 ok w e l cur):
  Holds enc w b 0 (l.map fr).toArray:=by
 intro j hj
 rw [List.size_toArray,Ai] at hj
 have hi:l[j]? = some l[j]:=Ap hj
 have:=zS Hm hr hi
 refine ⟨?_,by simp [World.frozen?,hh]⟩
 rw [getElem!_pos _ j (by simpa using hj)]
 simp only [World.cell?,hh,Au,List.getElem_toArray,List.getElem_map]
 rw [this,L1]
 rfl
theorem iZ (Hm:Kz e=true) (SG:∀ a,enc a=sv e (to a)) {b n:Nat} {d:List α} {os:Array Obj} {cur:Array Value} {T:TypeId} (hh:w.heap[b]? = some (.cells cur T (0,0))) (hd:d.length≤cur.size)
  (hw:w'=grow (putRow enc (Sort.ahead w n) b 0 d.toArray) os):
  BelowX ⟨w.heap.size,[b],[]⟩ w w'∧∃ cur',w'.heap[b]? = some (.cells cur' T (0,0))∧cur'.size=cur.size∧∀ ok,J9 ok w' e (d.map to) cur':=by
 have hb:b<w.heap.size:=(Array.getElem?_eq_some_iff.1 hh).1
 have Bu:(putRow enc (Sort.ahead w n) b 0 d.toArray).heap.size=w.heap.size:=by rw [Sort.size_putRow];rfl
 have Zxh:∀ k,k<w.heap.size→w'.heap[k]? = (putRow enc (Sort.ahead w n) b 0 d.toArray).heap[k]?:=fun k hk=>by
  rw [hw]
  unfold Sort.grow
  dsimp only
  rw [Array.getElem?_append_left (by rw [Bu];exact hk)]
 have Jn:w'.heap[b]? = some (.cells (Sort.putCells enc 0 d.toArray cur) T (0,0)):=by
  rw [Zxh b hb]
  unfold putRow Sort.mapBlock
  simp only [Array.getElem?_modify,if_true]
  rw [show (Sort.ahead w n).heap[b]? = w.heap[b]? from rfl,hh]
  rfl
 have Co:(Sort.putCells enc 0 d.toArray cur).size=cur.size:=by unfold Sort.putCells;rw [Array.size_mapIdx]
 refine ⟨⟨?_,?_,?_,?_,fun k hk hn _=>?_,fun k u cur T y hm=>(nomatch hm),fun k QT T2 y hm AO h2=>?_⟩,_,Jn,Co,fun ok=>zT Hm fun i x hi=>?_⟩
 ·rw [hw];rfl
 ·rw [hw];rfl
 ·rw [hw];rfl
 ·rw [hw,Sort.size_grow,Bu];exact Nat.le_add_right _ _
 ·rw [Zxh k hk]
  unfold putRow Sort.mapBlock
  simp only [Array.getElem?_modify]
  rw [if_neg fun e=>hn (by rw [← e];exact List.mem_singleton.2 rfl)]
  rfl
 ·have SF:k=b:=List.mem_singleton.1 hm
  subst SF
  rw [hh] at h2
  cases h2
  exact ⟨_,_,Jn,Co⟩
 ·rw [List.getElem?_map] at hi
  cases hq:d[i]? with
  | none=>rw [hq] at hi;cases hi
  | some a=>
   rw [hq] at hi
   cases hi
   have AO:=(List.getElem?_eq_some_iff.1 hq).1
   unfold Sort.putCells
   rw [Array.getElem?_mapIdx,Array.getElem?_eq_getElem (show i<cur.size by omega)]
   simp only [Option.map_some,Nat.zero_le,true_and,Au,List.size_toArray,Nat.sub_zero]
   rw [if_pos AO,getElem!_pos _ i (by simpa using AO),List.getElem_toArray,← SG]
   rw [Ap AO] at hq
   rw [Option.some.inj hq]
theorem u6 {ok:Nat→Nat→Prop} {l:List AV} {vs:List Value} {bs:List Nat} {rws:List (Option (Nat×Nat))} {x:DO [PK.ioa e]} (h:E6 [PK.ioa e] l=some x) (ha:KV ok w l vs bs rws):
  ∃ b cap cur T,bs=[b]∧rws=[]∧vs=[.slice (some ⟨b,0,none⟩) (List.length (α:=e.D) x.1) cap]∧w.heap[b]? = some (.cells cur T (0,0))∧cur.size=cap*e.sz∧List.length (α:=e.D) x.1≤cap∧cap≤maxLen∧
   0<List.length (α:=e.D) x.1∧J9 ok w e x.1 cur:=by
 cases l with
 | nil=>cases h
 | cons a l=>
  unfold E6 at h
  split at h
  ·rename_i y hy
   split at h
   ·rename_i z hz
    cases h
    cases l with
    | cons _ _=>cases hz
    | nil=>
     have:=ga hy
     subst this
     cases vs with
     | nil=>exact ha.elim
     | cons v vs=>
      obtain ⟨r,s,⟨b,cap,cur,T,h1,h2,h3,h4,h5,h6,h7,h8,h9⟩,hr⟩:=ha
      cases vs with
      | cons _ _=>exact hr.elim
      | nil=>
       obtain ⟨rfl,rfl⟩:=hr
       exact ⟨b,cap,cur,T,h1,h2,by rw [h3],h4,h5,h6,h7,h8,h9⟩
   ·cases h
  ·cases h
theorem uD (Hm:Kz e=true) (L1:∀ x,sv e x=enc (fr x)) (SG:∀ a,enc a=sv e (to a)) {F:List e.D→Option (List e.D)}
  (h:∀ x y,F x=some y→∀ w b cap,Holds enc w b 0 (x.map fr).toArray→b<w.heap.size→Calls P f #[.slice (some ⟨b,0,none⟩) x.length cap] w fun r w'=>r = .returned (.tuple #[])∧∃ n os,∃ d:List α,w'=grow (putRow enc (Sort.ahead w n) b 0 d.toArray) os∧d.length=x.length∧y=d.map to):
  AY P f (Gp 0 [.ioa e] [(.sl e,[])] fun x=>F x.1):=by
 intro l r y hs hm ok0 w vs bs rws _ _ _ DK _ Cy
 unfold Gp at hs
 split at hs
 ·rename_i x hx
  cases hs
  obtain ⟨b,cap,cur,T,rfl,rfl,rfl,hh,Co,hle,CL,HH,BO⟩:=u6 hx Cy
  rw [T0 Hm,Nat.mul_one] at Co
  refine (h x.1 y hm w b cap (holds_of Hm L1 hh BO) (DK b (List.mem_singleton.2 rfl))).mono ?_
  rintro r w' ⟨rfl,n,os,d,hw,hd,hy⟩
  obtain ⟨hB,cur',h1,h2,h3⟩:=iZ Hm SG hh (by omega) hw
  refine ⟨_,rfl,hB,fun _=>none,fun j b u hj=>(nomatch hj),fun j k b u u' hj=>(nomatch hj),?_,⟨[],rfl,trivial⟩⟩
  show Ld _ _ _ _ [.arr e y false] [b]
  subst hy
  exact ⟨⟨rfl,cur',T,_,h1, .inl rfl,by rw [T0 Hm,Ai];omega,by rw [Ai];omega,h3 _⟩,trivial⟩
 ·cases hs
theorem uF (Hm:Kz e=true) (L1:∀ x,sv e x=enc (fr x)) (SG:∀ a,enc a=sv e (to a)) {F:List e.D→Option (Int×List e.D)}
  (h:∀ x y,F x=some y→∀ w b cap,Holds enc w b 0 (x.map fr).toArray→x.length≤cap→Calls P f #[.slice (some ⟨b,0,none⟩) x.length cap] w fun r w'=>∃ m,∃ d:List α,m≤x.length∧r = .returned (.slice (some ⟨b,0,none⟩) m cap)∧(∃ n,w'=putRow enc (Sort.ahead w n) b 0 d.toArray)∧d.length=x.length∧y=((m:Int),d.map to)):
  AY P f (O0 0 [.ioa e] [(.int .i64,[]),(.sl e,[])] fun x=>F x.1):=by
 intro l r y hs hm ok0 w vs bs rws _ _ _ DK _ Cy
 unfold O0 at hs
 split at hs
 ·rename_i x hx
  cases hs
  obtain ⟨b,cap,cur,T,rfl,rfl,rfl,hh,Co,hle,CL,HH,BO⟩:=u6 hx Cy
  rw [T0 Hm,Nat.mul_one] at Co
  refine (h x.1 y hm w b cap (holds_of Hm L1 hh BO) hle).mono ?_
  rintro r w' ⟨m,d,Zyh,rfl,⟨n,hw⟩,hd,hy⟩
  obtain ⟨hB,cur',h1,h2,h3⟩:=iZ (d:=d) (os:=#[]) (n:=n) Hm SG hh (by omega) (hw.trans (Sort.grow_empty _).symm)
  subst hy
  refine ⟨_,rfl,hB,fun _=>none,fun j b u hj=>(nomatch hj),fun j k b u u' hj=>(nomatch hj),?_,?_⟩
  ·show Ld _ _ _ _ [.arr e (d.map to) false] [b]
   exact ⟨⟨rfl,cur',T,_,h1, .inl rfl,by rw [T0 Hm,Ai];omega,by rw [Ai];omega,h3 _⟩,trivial⟩
  ·show TX _ _ _ _ _ _ _ _ (.slp 0 (Int.toNat (m:Int)))
   rw [Int.toNat_natCast]
   refine ⟨b,cap,e,d.map to,false,some ⟨b,0,none⟩,rfl,rfl,?_,?_,CL,fun _=>rfl,?_,rfl⟩
   ·rw [Ai,hd];exact Zyh
   ·exact Nat.le_trans Zyh hle
   ·intro a h;cases h;rfl
 ·cases hs
def VI (e:Ty) (F:List e.D→Option (List e.D)):Spec:=fun l=>
 match E6 [.val (.sl e)] l with
 | some a=>some ⟨List e.D,F a.1,fun x=> .bxv e x,fun _=>[]⟩
 | none=>none
theorem fB {e:Ty} (Jt:Hy e=true) {ET:TypeId} {by_:Nat} (Iu:0<by_)
  (h:∀ (b off n c:Nat) (news:List Value) (w:World),news.length=n*e.sz→n≤maxLen→n*by_≤140737488355328→(∀ j u,news[j]? = some u→w.cell? ⟨b,off+j,none⟩=some u)→(∀ u∈news,u.oneCell'=true)→
   Calls P f #[.slice (some ⟨b,off,none⟩) n c] w fun r w'=>∃ v',r = .returned v'∧w'.ownsRow w.heap.size ET e.sz v' n news∧v'≠ .slice none 0 0∧Below w.heap.size w w'):
  AY P f (VI e (Ko by_)):=by
 intro l r y hs hm ok0 w vs bs rws _ cJ _ DK _ Cy
 unfold VI at hs
 split at hs
 ·rename_i x hx
  cases hs
  have hm:Ko by_ x.1=some y:=hm
  unfold Ko at hm
  cases hb:(decide (0<List.length (α:=e.D) x.1) && BM (List.length (α:=e.D) x.1) by_) with
  | false=>rw [hb] at hm;cases hm
  | true=>
   rw [hb] at hm
   have hm:=Option.some.inj hm
   rw [Bool.and_eq_true] at hb
   have HH:0<List.length (α:=e.D) x.1:=Ak hb.1
   have Fp:List.length (α:=e.D) x.1*by_≤140737488355328:=Ak hb.2
   have Pk:∃ av v,l=[av]∧vs=[v]∧av.as (.sl e)=some x.1∧NR ok0 w av v∧bs=[]∧rws=[]:=by
    cases l with
    | nil=>cases hx
    | cons a l=>
     unfold E6 at hx
     split at hx
     ·rename_i y' hy
      split at hx
      ·rename_i z hz
       cases hx
       cases l with
       | cons _ _=>cases hz
       | nil=>
        cases vs with
        | nil=>exact Cy.elim
        | cons v vs=>
         obtain ⟨r,s,h1,hr⟩:=Cy
         obtain ⟨h2,rfl,rfl⟩:=U8 (Vu rfl hy) h1
         cases vs with
         | cons _ _=>exact hr.elim
         | nil=>
          obtain ⟨rfl,rfl⟩:=hr
          exact ⟨a,v,rfl,rfl,hy,h2,rfl,rfl⟩
      ·cases hx
     ·cases hx
   obtain ⟨av,v,rfl,rfl,has,E0,rfl,rfl⟩:=Pk
   subst hm
   cases av with
   | dat t x' gs=>
    obtain ⟨cs,hr,rfl⟩:=E0
    have ny:=hr.cast has
    obtain ⟨et,_⟩:=Fj has
    subst et
    obtain ⟨p,n,cap,rfl,CM,hn,CL,hc⟩:=ny
    obtain ⟨A,hA,KH,_⟩:=hc 0 _ (Ap HH)
    subst hA
    obtain ⟨news,EG,C8,Pk⟩:=SO (ok:=ok0) (w:=w) (e:=e) (c:=fun k=>w.cell? ⟨A.block,k,none⟩) (l:=x.1) (base:=A.off) (fun i x hi=>by
     obtain ⟨A',DR,_,ys,hy,B4⟩:=hc i x hi
     cases DR
     exact ⟨ys,hy,fun j u hj=>(B4 j u hj).2⟩)
    obtain ⟨Ab,Ao,As⟩:=A
    dsimp only at KH C8
    subst KH
    refine (h Ab Ao n cap news w (by rw [EG.1,CM]) (by omega) (by rw [← CM];exact Fp) C8 Pk).mono ?_
    rintro r w' ⟨v',rfl,⟨FP,Ej⟩,Cb,Dz⟩
    rcases Ej with ⟨rfl,_⟩ | ⟨g,CT,cur,rfl,hg,hh,hle,mo,Co,Fc⟩
    ·exact absurd rfl Cb
    ·refine ⟨_,rfl,BelowX.LB Dz,fun _=>none,fun j b u hj=>(nomatch hj),fun j k b u u' hj=>(nomatch hj),trivial,?_⟩
     refine ⟨rfl,rfl,Jt,g,CT,cur,ET,hg,(Array.getElem?_eq_some_iff.1 hh).1,hh,Co,by rw [CM];exact hle,mo,by rw [CM],?_⟩
     refine fH (ok:=ok0) (w:=w) Jt ?_
     intro i z hi
     obtain ⟨ys,Eh,B4⟩:=EG.2 i z hi
     refine ⟨ys,Eh,fun j u hj=>?_⟩
     have h3:=B4 j u hj
     rw [← Fc,AA] at h3
     split at h3
     ·simpa using h3
     ·cases h3
   | _=>first | cases has | exact E0.elim
 ·cases hs
end
end Go.AM
