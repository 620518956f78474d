import Derived.Test.YtclpadlpcfnfmaaGreatAmPrim
import Derived.Test.YtclpadlpcfnfmaaGreatAmPrimW
import Derived.Sort.Grow
import Derived.Sort.EncStr
import Derived.Laws.AppendOwn
/- slices.Clone, Sort and Compact, out of what is known of their calls. -/
namespace Go.AM
open Go.RowKit (Below)
open Go.Sort (Holds putRow grow)
set_option linter.unusedSectionVars false
variable [Lay]
section
variable {P : Program} {f : FuncId} {w w' : World}
theorem Xp {β:Type} [Inhabited β] [DecidableEq β] (l:List β):(Lib.compact l).length≤l.length:=by
 unfold Lib.compact Lib.compactUpTo
 rw [List.length_map]
 exact Nat.le_trans (List.length_filter_le _ _) (by rw [List.length_range];exact Nat.le_refl _)
theorem Uc {e:Ty} (h:Ld e=true):e.sz=1:=by cases e <;> first | rfl | cases h
theorem wk {ok:Nat→Nat→Prop} {e:Ty} (h:Ld e=true) {l:List e.D} {cur:Array Value} (hr:Ix ok w e l cur) {i:Nat} {x:e.D} (hi:l[i]? = some x):cur[i]? = some (sv e x):=by
 obtain ⟨ys,hy,hyc⟩:=hr i x hi
 have h1:=hyc 0 (sv e x)
 rw [Uc h,Nat.mul_one,Nat.add_zero] at h1
 refine h1 ?_
 cases e with
 | int k=>simp only [RepD] at hy;subst hy;rfl
 | bool=>simp only [RepD] at hy;subst hy;rfl
 | str=>simp only [RepD] at hy;subst hy;rfl
 | _=>cases h
theorem wm {ok:Nat→Nat→Prop} {e:Ty} (h:Ld e=true) {l:List e.D} {cur:Array Value} (hr:∀ (i:Nat) (x:e.D),l[i]? = some x→cur[i]? = some (sv e x)):Ix ok w e l cur:=by
 intro i x hi
 refine ⟨[sv e x],(rS h x).1,fun j u hj=>?_⟩
 have hj0:j=0:=by have:=(List.getElem?_eq_some_iff.1 hj).1;simp at this;exact this
 subst hj0
 cases hj
 rw [Uc h,Nat.mul_one,Nat.add_zero]
 exact hr i x hi
variable {α : Type} [Inhabited α] {enc : α → Value} {e : Ty} {fr : e.D → α} {to : α → e.D}
theorem holds_of {ok:Nat→Nat→Prop} (hse:Ld e=true) (hfr:∀ x,sv e x=enc (fr x)) {b:Nat} {l:List e.D} {cur:Array Value} {T:TypeId} (hh:w.heap[b]? = some (.cells cur T (0,0))) (hr:Ix ok w e l cur):
  Holds enc w b 0 (l.map fr).toArray:=by
 intro j hj
 rw [List.size_toArray,List.length_map] at hj
 have hi:l[j]? = some l[j]:=List.getElem?_eq_getElem hj
 have:=wk hse hr hi
 refine ⟨?_,by simp [World.frozen?,hh]⟩
 rw [getElem!_pos _ j (by simpa using hj)]
 simp only [World.cell?,hh,Nat.zero_add,List.getElem_toArray,List.getElem_map]
 rw [this,hfr]
 rfl
theorem gB (hse:Ld e=true) (hto:∀ a,enc a=sv e (to a)) {b n:Nat} {d:List α} {os:Array Obj} {cur:Array Value} {T:TypeId} (hh:w.heap[b]? = some (.cells cur T (0,0))) (hd:d.length≤cur.size)
  (hw:w'=grow (putRow enc (Sort.ahead w n) b 0 d.toArray) os):
  BelowX ⟨w.heap.size,[b],[]⟩ w w'∧∃ cur',w'.heap[b]? = some (.cells cur' T (0,0))∧cur'.size=cur.size∧∀ ok,Ix ok w' e (d.map to) cur':=by
 have hb:b<w.heap.size:=(Array.getElem?_eq_some_iff.1 hh).1
 have hsz:(putRow enc (Sort.ahead w n) b 0 d.toArray).heap.size=w.heap.size:=by rw [Sort.size_putRow];rfl
 have hblk:∀ k,k<w.heap.size→w'.heap[k]? = (putRow enc (Sort.ahead w n) b 0 d.toArray).heap[k]?:=fun k hk=>by
  rw [hw]
  unfold Sort.grow
  dsimp only
  rw [Array.getElem?_append_left (by rw [hsz];exact hk)]
 have hnew:w'.heap[b]? = some (.cells (Sort.putCells enc 0 d.toArray cur) T (0,0)):=by
  rw [hblk b hb]
  unfold putRow Sort.mapBlock
  simp only [Array.getElem?_modify,if_true]
  rw [show (Sort.ahead w n).heap[b]? = w.heap[b]? from rfl,hh]
  rfl
 have hcs:(Sort.putCells enc 0 d.toArray cur).size=cur.size:=by unfold Sort.putCells;rw [Array.size_mapIdx]
 refine ⟨⟨?_,?_,?_,?_,fun k hk hn _=>?_,fun k u cur T y hm=>(nomatch hm),fun k cur2 T2 y hm hlt h2=>?_⟩,_,hnew,hcs,fun ok=>wm hse fun i x hi=>?_⟩
 ·rw [hw];rfl
 ·rw [hw];rfl
 ·rw [hw];rfl
 ·rw [hw,Sort.size_grow,hsz];exact Nat.le_add_right _ _
 ·rw [hblk k hk]
  unfold putRow Sort.mapBlock
  simp only [Array.getElem?_modify]
  rw [if_neg fun e=>hn (by rw [← e];exact List.mem_singleton.2 rfl)]
  rfl
 ·have hkb:k=b:=List.mem_singleton.1 hm
  subst hkb
  rw [hh] at h2
  cases h2
  exact ⟨_,_,hnew,hcs⟩
 ·rw [List.getElem?_map] at hi
  cases hq:d[i]? with
  | none=>rw [hq] at hi;cases hi
  | some a=>
   rw [hq] at hi
   cases hi
   have hlt:=(List.getElem?_eq_some_iff.1 hq).1
   unfold Sort.putCells
   rw [Array.getElem?_mapIdx,Array.getElem?_eq_getElem (show i<cur.size by omega)]
   simp only [Option.map_some,Nat.zero_le,true_and,Nat.zero_add,List.size_toArray,Nat.sub_zero]
   rw [if_pos hlt,getElem!_pos _ i (by simpa using hlt),List.getElem_toArray,← hto]
   rw [List.getElem?_eq_getElem hlt] at hq
   rw [Option.some.inj hq]
theorem lV {ok:Nat→Nat→Prop} {l:List AV} {vs:List Value} {bs:List Nat} {rws:List (Option (Nat×Nat))} {x:DP [PK.ioa e]} (h:DK [PK.ioa e] l=some x) (ha:Ig ok w l vs bs rws):
  ∃ b cap cur T,bs=[b]∧rws=[]∧vs=[.slice (some ⟨b,0,none⟩) (List.length (α:=e.D) x.1) cap]∧w.heap[b]? = some (.cells cur T (0,0))∧cur.size=cap*e.sz∧List.length (α:=e.D) x.1≤cap∧cap≤maxLen∧
   0<List.length (α:=e.D) x.1∧Ix ok w e x.1 cur:=by
 cases l with
 | nil=>cases h
 | cons a l=>
  unfold DK at h
  split at h
  ·rename_i y hy
   split at h
   ·rename_i z hz
    cases h
    cases l with
    | cons _ _=>cases hz
    | nil=>
     have:=YV hy
     subst this
     cases vs with
     | nil=>exact ha.elim
     | cons v vs=>
      obtain ⟨r,s,⟨b,cap,cur,T,h1,h2,h3,h4,h5,h6,h7,h8,h9⟩,hr⟩:=ha
      cases vs with
      | cons _ _=>exact hr.elim
      | nil=>
       obtain ⟨rfl,rfl⟩:=hr
       exact ⟨b,cap,cur,T,h1,h2,by rw [h3],h4,h5,h6,h7,h8,h9⟩
   ·cases h
  ·cases h
theorem lW (hse:Ld e=true) (hfr:∀ x,sv e x=enc (fr x)) (hto:∀ a,enc a=sv e (to a)) {F:List e.D→Option (List e.D)}
  (h:∀ x y,F x=some y→∀ w b cap,Holds enc w b 0 (x.map fr).toArray→b<w.heap.size→Calls P f #[.slice (some ⟨b,0,none⟩) x.length cap] w fun r w'=>r = .returned (.tuple #[])∧∃ n os,∃ d:List α,w'=grow (putRow enc (Sort.ahead w n) b 0 d.toArray) os∧d.length=x.length∧y=d.map to):
  Ah P f (EE 0 [.ioa e] [(.sl e,[])] fun x=>F x.1):=by
 intro l r y hs hm ok0 w vs bs rws _ _ _ hbs _ hargs
 unfold EE at hs
 split at hs
 ·rename_i x hx
  cases hs
  obtain ⟨b,cap,cur,T,rfl,rfl,rfl,hh,hcs,hle,hmx,hpos,hrow⟩:=lV hx hargs
  rw [Uc hse,Nat.mul_one] at hcs
  refine (h x.1 y hm w b cap (holds_of hse hfr hh hrow) (hbs b (List.mem_singleton.2 rfl))).mono ?_
  rintro r w' ⟨rfl,n,os,d,hw,hd,hy⟩
  obtain ⟨hB,cur',h1,h2,h3⟩:=gB hse hto hh (by omega) hw
  refine ⟨_,rfl,hB,fun _=>none,fun j b u hj=>(nomatch hj),fun j k b u u' hj=>(nomatch hj),?_,⟨[],rfl,trivial⟩⟩
  show Mb _ _ _ _ [.arr e y false] [b]
  subst hy
  exact ⟨⟨rfl,cur',T,_,h1, .inl rfl,by rw [Uc hse,List.length_map];omega,by rw [List.length_map];omega,h3 _⟩,trivial⟩
 ·cases hs
theorem lX (hse:Ld e=true) (hfr:∀ x,sv e x=enc (fr x)) (hto:∀ a,enc a=sv e (to a)) {F:List e.D→Option (Int×List e.D)}
  (h:∀ x y,F x=some y→∀ w b cap,Holds enc w b 0 (x.map fr).toArray→x.length≤cap→Calls P f #[.slice (some ⟨b,0,none⟩) x.length cap] w fun r w'=>∃ m,∃ d:List α,m≤x.length∧r = .returned (.slice (some ⟨b,0,none⟩) m cap)∧(∃ n,w'=putRow enc (Sort.ahead w n) b 0 d.toArray)∧d.length=x.length∧y=((m:Int),d.map to)):
  Ah P f (LH 0 [.ioa e] [(.int .i64,[]),(.sl e,[])] fun x=>F x.1):=by
 intro l r y hs hm ok0 w vs bs rws _ _ _ hbs _ hargs
 unfold LH at hs
 split at hs
 ·rename_i x hx
  cases hs
  obtain ⟨b,cap,cur,T,rfl,rfl,rfl,hh,hcs,hle,hmx,hpos,hrow⟩:=lV hx hargs
  rw [Uc hse,Nat.mul_one] at hcs
  refine (h x.1 y hm w b cap (holds_of hse hfr hh hrow) hle).mono ?_
  rintro r w' ⟨m,d,hmx1,rfl,⟨n,hw⟩,hd,hy⟩
  obtain ⟨hB,cur',h1,h2,h3⟩:=gB (d:=d) (os:=#[]) (n:=n) hse hto hh (by omega) (hw.trans (Sort.grow_empty _).symm)
  subst hy
  refine ⟨_,rfl,hB,fun _=>none,fun j b u hj=>(nomatch hj),fun j k b u u' hj=>(nomatch hj),?_,?_⟩
  ·show Mb _ _ _ _ [.arr e (d.map to) false] [b]
   exact ⟨⟨rfl,cur',T,_,h1, .inl rfl,by rw [Uc hse,List.length_map];omega,by rw [List.length_map];omega,h3 _⟩,trivial⟩
  ·show TZ _ _ _ _ _ _ _ _ (.slp 0 (Int.toNat (m:Int)))
   rw [Int.toNat_natCast]
   refine ⟨b,cap,e,d.map to,false,some ⟨b,0,none⟩,rfl,rfl,?_,?_,hmx,fun _=>rfl,?_,rfl⟩
   ·rw [List.length_map,hd];exact hmx1
   ·exact Nat.le_trans hmx1 hle
   ·intro a h;cases h;rfl
 ·cases hs
def Tc (e:Ty) (F:List e.D→Option (List e.D)):Spec:=fun l=>
 match DK [.val (.sl e)] l with
 | some a=>some ⟨List e.D,F a.1,fun x=> .bxv e x,fun _=>[]⟩
 | none=>none
theorem VW {e:Ty} (hwd:Gg e=true) {ET:TypeId} {by_:Nat} (hby:0<by_)
  (h:∀ (b off n c:Nat) (news:List Value) (w:World),news.length=n*e.sz→n≤maxLen→n*by_≤140737488355328→(∀ j u,news[j]? = some u→w.cell? ⟨b,off+j,none⟩=some u)→(∀ u∈news,u.oneCell'=true)→
   Calls P f #[.slice (some ⟨b,off,none⟩) n c] w fun r w'=>∃ v',r = .returned v'∧w'.ownsRow w.heap.size ET e.sz v' n news∧v'≠ .slice none 0 0∧Below w.heap.size w w'):
  Ah P f (Tc e (Hh by_)):=by
 intro l r y hs hm ok0 w vs bs rws _ hk0 _ hbs _ hargs
 unfold Tc at hs
 split at hs
 ·rename_i x hx
  cases hs
  have hm:Hh by_ x.1=some y:=hm
  unfold Hh at hm
  cases hb:(decide (0<List.length (α:=e.D) x.1) && Bw (List.length (α:=e.D) x.1) by_) with
  | false=>rw [hb] at hm;cases hm
  | true=>
   rw [hb] at hm
   have hm:=Option.some.inj hm
   rw [Bool.and_eq_true] at hb
   have hpos:0<List.length (α:=e.D) x.1:=of_decide_eq_true hb.1
   have hroom:List.length (α:=e.D) x.1*by_≤140737488355328:=of_decide_eq_true hb.2
   have hone:∃ av v,l=[av]∧vs=[v]∧av.as (.sl e)=some x.1∧KD ok0 w av v∧bs=[]∧rws=[]:=by
    cases l with
    | nil=>cases hx
    | cons a l=>
     unfold DK at hx
     split at hx
     ·rename_i y' hy
      split at hx
      ·rename_i z hz
       cases hx
       cases l with
       | cons _ _=>cases hz
       | nil=>
        cases vs with
        | nil=>exact hargs.elim
        | cons v vs=>
         obtain ⟨r,s,h1,hr⟩:=hargs
         obtain ⟨h2,rfl,rfl⟩:=Nq (Qq rfl hy) h1
         cases vs with
         | cons _ _=>exact hr.elim
         | nil=>
          obtain ⟨rfl,rfl⟩:=hr
          exact ⟨a,v,rfl,rfl,hy,h2,rfl,rfl⟩
      ·cases hx
     ·cases hx
   obtain ⟨av,v,rfl,rfl,has,hrep,rfl,rfl⟩:=hone
   subst hm
   cases av with
   | dat t x' gs=>
    obtain ⟨cs,hr,rfl⟩:=hrep
    have hr':=hr.cast has
    obtain ⟨et,_⟩:=CR has
    subst et
    obtain ⟨p,n,cap,rfl,hln,hn,hmx,hc⟩:=hr'
    obtain ⟨A,hA,hAs,_⟩:=hc 0 _ (List.getElem?_eq_getElem hpos)
    subst hA
    obtain ⟨news,hrows,hcell,hone⟩:=Hy (ok:=ok0) (w:=w) (e:=e) (c:=fun k=>w.cell? ⟨A.block,k,none⟩) (l:=x.1) (base:=A.off) (fun i x hi=>by
     obtain ⟨A',hA',_,ys,hy,hyc⟩:=hc i x hi
     cases hA'
     exact ⟨ys,hy,fun j u hj=>(hyc j u hj).2⟩)
    obtain ⟨Ab,Ao,As⟩:=A
    dsimp only at hAs hcell
    subst hAs
    refine (h Ab Ao n cap news w (by rw [hrows.1,hln]) (by omega) (by rw [← hln];exact hroom) hcell hone).mono ?_
    rintro r w' ⟨v',rfl,⟨hnl,hown⟩,hne,hbel⟩
    rcases hown with ⟨rfl,_⟩ | ⟨g,DN,cur,rfl,hg,hh,hle,hmx',hcs,htk⟩
    ·exact absurd rfl hne
    ·refine ⟨_,rfl,BelowX.Gn hbel,fun _=>none,fun j b u hj=>(nomatch hj),fun j k b u u' hj=>(nomatch hj),trivial,?_⟩
     refine ⟨rfl,rfl,hwd,g,DN,cur,ET,hg,(Array.getElem?_eq_some_iff.1 hh).1,hh,hcs,by rw [hln];exact hle,hmx',by rw [hln],?_⟩
     refine VQ (ok:=ok0) (w:=w) hwd ?_
     intro i z hi
     obtain ⟨ys,hyr,hyc⟩:=hrows.2 i z hi
     refine ⟨ys,hyr,fun j u hj=>?_⟩
     have h3:=hyc j u hj
     rw [← htk,List.getElem?_take] at h3
     split at h3
     ·simpa using h3
     ·cases h3
   | _=>first | cases has | exact hrep.elim
 ·cases hs
end
end Go.AM
