import Derived.Test.YtclpadlpcfnfmaaGreatAmL2
import Derived.Lib.ConvBytes
section
/- Appends: in place, or into a new row; strings as bytes. -/
namespace Go.AM
open Go.RowKit (Below)
set_option linter.unusedSectionVars false
variable [Lay]
section
variable {P : Program} {B : Bd} {ok0 : Nat → Nat → Prop} {w0 w w' : World} {g g' : G} {σ σ1 : St} {a : Act} {o : Oper} {E : Env}
theorem ed {T U ty ET:TypeId} {ie:TypeInfo} {z:Value} {sz by_:Nat} (ht:P.underlying T=some (.slice ET)) (hi:P.info? ET=some ie) (hz:ie.zero=some z) (Bu:ie.size=sz) (Iu:ie.bytes=by_)
  (hu:(∃ EU,P.underlying U=some (.slice EU))∨P.underlying U=some .string)
  {p:Option Addr} {n cap m:Nat} {x:Value} {olds news:List Value} (hlen:∀ w,(Builtin.lenOf x).run P w = .ok m w)
  (hx:∀ w',w'.heap=w.heap→(Builtin.firstCells sz m x).run P w' = .ok news.toArray w') (FP:news.length=m*sz) (h1:∀ u∈news,u.oneCell'=true)
  (hp:(p=none∧n=0∧cap=0∧olds=[])∨∃ b cur TT y,p=some ⟨b,0,none⟩∧w.heap[b]? = some (.cells cur TT y)∧(y=(0,0)∨cur.size≤y.1)∧cur.size=cap*sz∧n≤cap∧olds=cur.toList.take (n*sz))
  (Fp:(n+m)*by_≤140737488355328) (KB:0<by_):
  (∃ b cur TT y,p=some ⟨b,0,none⟩∧w.heap[b]? = some (.cells cur TT y)∧n+m≤cap∧
   (Builtin.append_ #[T,U] ty #[.slice p n cap,x]).run P w = .ok (.slice p (n+m) cap) (w.setRow b (Dy cur.toList (n*sz) news).toArray))∨
  (p=none∧m=0∧(Builtin.append_ #[T,U] ty #[.slice p n cap,x]).run P w = .ok (.slice none 0 0) w)∨
  (∃ LU,n+m≤LU∧LU≤maxLen∧(Builtin.append_ #[T,U] ty #[.slice p n cap,x]).run P w =
   .ok (.slice (some ⟨w.heap.size,0,none⟩) (n+m) LU) (w.drew.alloc (.cells (olds.toArray++news.toArray++Builtin.zeroCells z.cells (LU-(n+m))) ET))):=by
 have hle:n+m≤140737488355328:=Nat.le_trans (Nat.le_mul_of_pos_right _ KB) Fp
 have CL:n+m≤maxLen:=by unfold maxLen;omega
 by_cases VK:n+m≤cap
 ·rcases hp with ⟨rfl,rfl,rfl,rfl⟩ | ⟨b,cur,TT,y,rfl,hh,Uw,Co,cQ,rfl⟩
  ·have hm:m=0:=by omega
   subst hm
   refine .inr (.inl ⟨rfl,rfl,?_⟩)
   have Df:news=[]:=AI (by simpa using FP)
   subst Df
   have Dt:=hx w rfl
   rcases hu with ⟨EU,hu⟩ | hu <;>
    simp [Builtin.append_,run_underlying ht,run_underlying hu,sizeOf,typeInfo,hi,Bu,hlen,Dt]
  ·refine .inl ⟨b,cur,TT,y,rfl,hh,VK,?_⟩
   have Dt:=hx w rfl
   have EP:=XS P b (n*sz) TT y news 0 cur w hh Uw (by rw [Nat.add_zero,FP,Co,← Nat.add_mul];exact AJ _ VK) h1
   simp only [Nat.add_zero] at EP
   have Ig:(⟨b,0,none⟩:Addr).add (n*sz)=⟨b,n*sz,none⟩:=by rw [Hx ⟨b,0,none⟩ rfl];simp
   rcases hu with ⟨EU,hu⟩ | hu <;>
    simp [Builtin.append_,run_underlying ht,run_underlying hu,sizeOf,typeInfo,hi,Bu,hlen,VK,Dt,Ig,EP,Dy]
 ·have AO:cap<n+m:=by omega
  have IT:=grownCap_ge w (n+m) cap ET
  have SE:=grownCap_le_maxLen w (n+m) cap ET CL
  refine .inr (.inr ⟨grownCap w (n+m) cap ET,IT,SE,?_⟩)
  have Um:¬ (9223372036854775807<((n:Int)+(m:Int))):=by omega
  have DY:=growslice_fits (bytes:=by_) AO Fp
  have h48:¬ (281474976710656<Builtin.nextslicecap (n+m) cap*by_):=by omega
  have Dt:=hx w.drew rfl
  have hold:(Builtin.firstCells sz n (.slice p n cap)).run P w.drew = .ok olds.toArray w.drew:=by
   rcases hp with ⟨rfl,rfl,rfl,rfl⟩ | ⟨b,cur,TT,y,rfl,hh,Uw,Co,cQ,rfl⟩
   ·simp [Builtin.firstCells]
   ·refine run_firstCells_some (P:=P) w.drew sz n ⟨b,0,none⟩ n cap _ ?_ fun j u hj=>?_
    ·rw [Ag]
     have:n*sz≤cap*sz:=AJ _ cQ
     simp;omega
    ·rw [Hx ⟨b,0,none⟩ rfl]
     rw [AA] at hj
     split at hj
     ·simp only [World.cell?,Au]
      rw [show w.drew.heap=w.heap from rfl,hh]
      simpa using hj
     ·cases hj
  rcases hu with ⟨EU,hu⟩ | hu
  ·simp [Builtin.append_,run_underlying ht,run_underlying hu,sizeOf,typeInfo,zeroValue,hi,hz,Bu,Iu,hlen,VK,Um,h48,Question.forced,hold,Dt,newRow,grownCap]
   congr 2
   apply Array.ext'
   simp [Al]
  ·simp [Builtin.append_,run_underlying ht,run_underlying hu,sizeOf,typeInfo,zeroValue,hi,hz,Bu,Iu,hlen,VK,Um,h48,Question.forced,hold,Dt,newRow,grownCap]
   congr 2
   apply Array.ext'
   simp [Al]
theorem IE.append {ok:Nat→Nat→Prop} {e:Ty} {l1 l2:List e.D} {c1 c2:List Value} (h1:IE ok w e l1 c1) (h2:IE ok w e l2 c2):IE ok w e (l1++l2) (c1++c2):=by
 refine ⟨by rw [Ae,Ae,h1.1,h2.1,Nat.add_mul],fun i x hi=>?_⟩
 by_cases AO:i<l1.length
 ·rw [AD AO] at hi
  obtain ⟨ys,hy,hc⟩:=h1.2 i x hi
  refine ⟨ys,hy,fun j u hj=>?_⟩
  have h3:=hc j u hj
  rw [AD (List.getElem?_eq_some_iff.1 h3).1]
  exact h3
 ·rw [Aw (by omega)] at hi
  obtain ⟨ys,hy,hc⟩:=h2.2 _ x hi
  refine ⟨ys,hy,fun j u hj=>?_⟩
  have h3:=hc j u hj
  have hle:l1.length*e.sz≤i*e.sz:=AJ _ (by omega)
  rw [Aw (by rw [h1.1];omega),h1.1,show i*e.sz+j-l1.length*e.sz=(i-l1.length)*e.sz+j by rw [Nat.sub_mul];omega]
  exact h3
theorem Inv.Ztu (h:Inv B ok0 w0 g σ a w) {id b n m cap:Nat} {e:Ty} {l l':List e.D} {news:List Value} {cur:Array Value} {TT:TypeId} (ER:g.rw id=some (b,n*e.sz))
    (hh:w.heap[b]? = some (.cells cur TT (0,0))) (Bu:cur.size=cap*e.sz) (Fp:n+m≤cap) (JT:cap≤maxLen) (hid:id≠0) (hl:RepD (okG B ok0 g w) w (.sl e) l [.slice (some ⟨b,0,none⟩) n cap])
    (GS:IE (okG B ok0 g w) w e l' news) (hm:l'.length=m) (np:e.sg=0→TT=Lay.byt):
    ∃ g',Inv B ok0 w0 g' (σ.Cz id) a (w.setRow b (Dy cur.toList (n*e.sz) news).toArray)∧
      RepA (okG B ok0 g' (w.setRow b (Dy cur.toList (n*e.sz) news).toArray)) g' (σ.Cz id) (w.setRow b (Dy cur.toList (n*e.sz) news).toArray)
        (.dat (.sl e) (l++l') [⟨0,id,σ.r id+1,e.sg⟩]) (.slice (some ⟨b,0,none⟩) (n+m) cap):=by
  obtain ⟨Im,DK,Gc⟩:=h.rb id b _ ER
  have FP:news.length=m*e.sz:=by rw [GS.1,hm]
  have DY:n*e.sz+news.length≤cur.toList.length:=by
    rw [FP,Array.length_toList,Bu,← Nat.add_mul];exact AJ _ Fp
  generalize hw':w.setRow b (Dy cur.toList (n*e.sz) news).toArray=w'
  have WG:w'.heap.size=w.heap.size:=by rw [← hw'];exact setRow_size _ _ _
  have ZN:∀ k,k≠b→w'.heap[k]? = w.heap[k]?:=fun k hk=>by rw [← hw'];exact setRow_other w b k _ hk
  have Jn:w'.heap[b]? = some (.cells (Dy cur.toList (n*e.sz) news).toArray TT (0,0)):=by rw [← hw'];exact setRow_heap w b _ _ _ _ hh
  have C8:∀ b' off,okG B ok0 g w b' off→w'.cell? ⟨b',off,none⟩=w.cell? ⟨b',off,none⟩:=by
    intro b' off hk
    by_cases E2:b'=b
    · subst E2
      have AO:off<n*e.sz:=by
        rcases hk with hk | ⟨_,_,_,q4⟩
        · obtain ⟨q1,_,q3⟩:=h.h0 _ _ hk
          rcases Im with hB | ⟨u0,hB,hle⟩
          · omega
          · have:=q3 u0 hB;omega
        · exact q4 id _ ER
      simp only [World.cell?,Jn,hh]
      unfold Dy
      simp only [Option.isSome_none,Bool.false_eq_true,if_false,List.getElem?_toArray]
      rw [Al,AD (by rw [Ag];omega),AA,if_pos AO]
      simp
    · simp only [World.cell?,ZN b' E2]
  have hx:Ext (okG B ok0 g w) (okG B ok0 (g.Kt id (some (b,(n+m)*e.sz))) w') g (g.Kt id (some (b,(n+m)*e.sz))) σ (σ.Cz id) w w':=
    { cell := fun b' off hk => by
        refine ⟨?_,C8 b' off hk⟩
        rcases hk with hk | ⟨q1,q2,q3,q4⟩
        · exact .inl hk
        · refine .inr ⟨q1,by rw [WG];exact q2,q3,fun id' u he=>?_⟩
          simp only [G.Kt,BD] at he
          split at he
          · cases he
            have:=q4 id _ ER
            rw [Nat.add_mul]
            omega
          · exact q4 id' u he
      box:=fun id' ver hv=>⟨hv,fun he=>⟨he,fun b' f hb=>⟨f,hb⟩,fun e' l2 fz hc=>⟨l2,fz,hc,rfl⟩,fun hn=>hn,fun b' f cur' T y _ hb DS=>⟨cur',y,(ZN b' (fun e=>by subst e;exact Gc id' f hb)).trans DS,rfl⟩⟩⟩
      row:=fun id' ver h0 hv=>by
        simp only [St.Cz,BD,G.Kt]
        by_cases hi:id'=id
        · subst hi
          simp only [if_true]
          exact ⟨by omega,fun he=>by omega⟩
        · simp only [if_neg hi]
          exact ⟨hv,fun he=>⟨he,fun b' u PO=>⟨PO,ZN b' (fun e=>by subst e;exact hi (h.ri _ _ _ _ _ PO ER))⟩⟩⟩ }
  refine ⟨g.Kt id (some (b,(n+m)*e.sz)),?_,?_⟩
  · exact {
      below:=by
        rw [← hw']
        refine ou (by rcases Im with hB | ⟨u0,hB,_⟩;exact .inl hB;exact .inr (.inr ⟨u0,hB⟩)) (fun u cur' T y hq AO DS=>?_) (fun _ cur' T y DS=>by rw [hh] at DS;cases DS;rw [List.size_toArray,Kk DY,Array.length_toList]) h.below
        rw [hh] at DS
        cases DS
        refine ⟨by rw [List.size_toArray,Kk DY,Array.length_toList],fun o ho=>?_⟩
        have hu:u≤n*e.sz:=by
          rcases Im with hB | ⟨u0,hB,hle⟩
          · omega
          · rw [← (h.hR b u0 hB).2.2 u hq] at hle;exact hle
        rw [List.getElem?_toArray,ef DY (.inl (by omega)),Array.getElem?_toList]
      hB:=h.hB,h0:=h.h0,hR:=h.hR,defers:=h.defers,lay:=h.lay,tm:=h.tm,nm:=h.nm
      bb:=fun id' b' f hb=>by rw [WG];exact h.bb id' b' f hb
      bi:=h.bi
      rb:=fun id' b' u hb=>by
        simp only [G.Kt,BD] at hb
        split at hb
        · cases hb;exact ⟨by rcases Im with hB | ⟨u0,hB,hle⟩;exact .inl hB;exact .inr ⟨u0,hB,by rw [Nat.add_mul];omega⟩,by rw [WG];exact DK,Gc⟩
        · rw [WG];exact h.rb id' b' u hb
      ri:=fun i1 i2 b' u1 u2 e1 e2=>by
        simp only [G.Kt,BD] at e1 e2
        split at e1 <;> split at e2
        · simp_all
        · cases e1;rename_i q1 q2;rw [q1];exact (h.ri _ _ _ _ _ e2 ER).symm
        · cases e2;rename_i q1 q2;rw [q2];exact h.ri _ _ _ _ _ e1 ER
        · exact h.ri _ _ _ _ _ e1 e2
      con:=fun id' c hc=>by
        rcases h.con id' c hc with hn | ⟨b',f,hb,hk⟩
        · exact .inl hn
        exact .inr ⟨b',f,hb,hk.ext hx (ZN b' (fun e=>by subst e;exact Gc id' f hb))⟩
      slots:=fun t=>(h.slots t).ext hx }
  · obtain ⟨p',n',CT,hv,CM,hn,Lm,hc⟩:=hl
    cases hv
    refine ⟨_,⟨_,_,_,rfl,by rw [Ae,CM,hm],Fp,JT,fun i x hi=>?_⟩,rfl,fun t ht=>?_⟩
    · by_cases AO:i<l.length
      · rw [AD AO] at hi
        obtain ⟨A,hA,hs,ys,hy,B4⟩:=hc i x hi
        refine ⟨A,hA,hs,ys,hy.mono hx.cell,fun j u hj=>?_⟩
        obtain ⟨h1,h2⟩:=B4 j u hj
        exact ⟨(hx.cell _ _ h1).1,(C8 _ _ h1).trans h2⟩
      · rw [Aw (by omega)] at hi
        obtain ⟨ys,hy,B4⟩:=GS.2 _ x hi
        refine ⟨_,rfl,rfl,ys,hy.mono hx.cell,fun j u hj=>?_⟩
        have h1:=B4 j u hj
        have h2:=(List.getElem?_eq_some_iff.1 h1).1
        have hle:n*e.sz≤i*e.sz:=AJ _ (by omega)
        rw [CM] at h1 h2
        rw [Nat.sub_mul] at h1 h2
        refine ⟨.inr ⟨by rcases Im with hB | ⟨u0,hB,_⟩;exact .inl hB;exact .inr ⟨u0,hB⟩,by rw [WG];exact DK,fun id'=>Gc id' false,fun id' u' he=>?_⟩,?_⟩
        · simp only [G.Kt,BD] at he
          split at he
          · cases he;show 0+(i*e.sz+j)<_;rw [Nat.add_mul];omega
          · rename_i Cb;exact absurd (h.ri _ _ _ _ _ he ER) Cb
        · simp only [World.cell?,Jn,Au]
          unfold Dy
          simp only [Option.isSome_none,Bool.false_eq_true,if_false,List.getElem?_toArray]
          rw [Al,Aw (by rw [Ag];omega),AD (by rw [Ag];omega),← h1]
          congr 1
          rw [Ag]
          omega
    · have GV:t=⟨0,id,σ.r id+1,e.sg⟩:=by simpa using ht
      subst GV
      refine ⟨fun h0=>absurd h0 hid,fun _=>⟨by simp [St.Cz,BD],fun _=> .inr ⟨b,n+m,cap,_,TT,rfl,by simp [G.Kt,BD,Vv],Jn,?_,Fp,JT,np⟩⟩⟩
      show _=cap*N6 e.sg
      rw [Vv,List.size_toArray,Kk DY,Array.length_toList,Bu]
theorem pe {d sz id:Nat}:∀ {gs:List Tag},KT σ d sz gs=some id→∃ τ∈gs,τ.off=0∧τ.sz=sz∧((τ.id=0∧id=B3 d 0)∨(τ.id≠0∧σ.r τ.id = τ.ver∧id = τ.id))
 | [],h=>by cases h
 | t :: ts,h=>by
  unfold KT at h
  split at h
  ·rename_i h1
   split at h
   ·rename_i h2;cases h;exact ⟨t,by simp,h1.1,h1.2, .inl ⟨h2,rfl⟩⟩
   ·rename_i h2
    split at h
    ·rename_i h3;cases h;exact ⟨t,by simp,h1.1,h1.2, .inr ⟨h2,h3,rfl⟩⟩
    ·cases h
  ·obtain ⟨τ,hm,hr⟩:=pe h
   exact ⟨τ,by simp [hm],hr⟩
theorem pc (hE:EnvOk P E) (hI:Inv B ok0 w0 g σ a w) (hd:∀ d,o.dst=some d→d<a.tmps.size) {T U ET:TypeId} {ie:TypeInfo} {c:Call} (ho:o.op = .call c) (hc:c.callee = .builtin .append) {s x:Operand}
  (ha:c.args.toList=[s,x]) (FI:c.argTypes.toList=[T,U]) {e:Ty} (hT:E.ty T=some (.sl e)) (hu:P.underlying T=some (.slice ET)) (Em:P.info? ET=some ie)
  (hU:(∃ EU,P.underlying U=some (.slice EU))∨P.underlying U=some .string)
  {l:List e.D} (hl:(A8 σ s).as (.sl e)=some l) {d id:Nat} (hid:KT σ d e.sg ((A8 σ s).tags (.sl e))=some id) {l':List e.D} {news:List Value} {m:Nat} (EG:IE (okG B ok0 g w) w e l' news) (hm:l'.length=m)
  (hlen:∀ w,(Builtin.lenOf (a.eval x)).run P w = .ok m w) (hx:∀ w',w'.heap=w.heap→(Builtin.firstCells e.sz m (a.eval x)).run P w' = .ok news.toArray w') (h1:∀ u∈news,u.oneCell'=true):
  Dp P B ok0 w0 (.go (BM (l.length+m) (E.by_ T)) ((σ.Cz id).BJ o.dst (.dat (.sl e) (l++l') [⟨0,id,σ.r id+1,e.sg⟩]))) o a w:=by
 have Ln:c.args = #[s,x]:=by rw [← Array.toArray_toList (xs:=c.args),ha]
 have Pw:c.argTypes = #[T,U]:=by rw [← Array.toArray_toList (xs:=c.argTypes),FI]
 obtain ⟨ET',ie',hu',Zuh,Bu,hz,_⟩:=(hE.ty T _ hT).und
 rw [hu] at hu';cases hu'
 rw [Em] at Zuh;cases Zuh
 obtain ⟨Iu,Uz⟩:=hE.by_ T e ET ie hT hu Em
 obtain ⟨τ,hτ,Xb,hτs,hτid⟩:=pe hid
 obtain ⟨cs,E0,hv,bw⟩:=RV hl (Ec hI s)
 have Yk1:=E0
 obtain ⟨p,n,cap,rfl,CM,hn,JT,Ct⟩:=E0
 have Lp:a.eval s = .slice p n cap:=hv
 have mr:id≠0:=by
  rcases hτid with ⟨_,rfl⟩ | ⟨h,_,rfl⟩
  ·exact TF d 0
  ·exact h
 -- nil, or a row of one's own
 have Ej:(p=none∧n=0∧cap=0)∨∃ b cur TT,p=some ⟨b,0,none⟩∧g.rw id=some (b,n*e.sz)∧w.heap[b]? = some (.cells cur TT (0,0))∧cur.size=cap*e.sz∧(e.sg=0→TT=Lay.byt):=by
  obtain ⟨q1,q2⟩:=bw τ hτ
  rw [Xb] at q1 q2
  rcases hτid with ⟨h0,_⟩ | ⟨h0,hr,rfl⟩
  ·have:=q1 h0
   simp at this
   exact .inl ⟨this.1,this.2.1,this.2.2⟩
  ·rcases (q2 h0).2 hr with hv | ⟨b,n',CT,cur,TT,hv,ER,hh,Co,_,_,cR⟩
   ·simp at hv
    exact .inl ⟨hv.1,hv.2.1,hv.2.2⟩
   ·simp at hv
    obtain ⟨rfl,rfl,rfl⟩:=hv
    rw [hτs] at ER Co cR
    rw [Vv] at ER Co
    exact .inr ⟨b,cur,TT,rfl,ER,hh,Co,cR⟩
 refine go_ok hd fun mu=>?_
 have Fp:(n+m)*E.by_ T≤140737488355328:=by rw [← CM];exact Ak mu
 have Ia:(valOf e e.zcells).cells.size=e.sz:=by
  rw [Nv (He (fun _ _=>True) w e),List.size_toArray,(He (fun _ _=>True) w e).len]
 have BA:∀ v w',(Builtin.append_ #[T,U] o.type #[.slice p n cap,a.eval x]).run P w = .ok v w'→(execOp a.eval o).run P w = .ok (.value v) w':=by
  intro v w' Ho
  unfold execOp;rw [ho]
  simp [resolve,hc,Ln,Pw,invoke,builtin,Lp,Ho]
 -- the old row's cells
 have holds:∃ olds,((p=none∧n=0∧cap=0∧olds=[])∨∃ b cur TT y,p=some ⟨b,0,none⟩∧w.heap[b]? = some (.cells cur TT y)∧(y=(0,0)∨cur.size≤y.1)∧cur.size=cap*e.sz∧n≤cap∧olds=cur.toList.take (n*e.sz))∧
   IE (okG B ok0 g w) w e l olds:=by
  rcases Ej with ⟨rfl,rfl,rfl⟩ | ⟨b,cur,TT,rfl,ER,hh,Co,_⟩
  ·have:l=[]:=AI CM
   subst this
   exact ⟨[], .inl ⟨rfl,rfl,rfl,rfl⟩,⟨by simp,fun i x hi=>by simp at hi⟩⟩
  ·refine ⟨_, .inr ⟨b,cur,TT,_,rfl,hh, .inl rfl,Co,hn,rfl⟩,⟨?_,fun i x hi=>?_⟩⟩
   ·rw [Ag,CM,Array.length_toList,Co]
    have:n*e.sz≤cap*e.sz:=AJ _ hn
    omega
   ·obtain ⟨A,hA,hs,ys,hy,B4⟩:=Ct i x hi
    cases hA
    refine ⟨ys,hy,fun j u hj=>?_⟩
    obtain ⟨k1,k2⟩:=B4 j u hj
    simp only [World.cell?,hh,Au] at k2
    have AO:i*e.sz+j<n*e.sz:=by
     have:=(List.getElem?_eq_some_iff.1 hj).1
     rw [hy.len] at this
     have CB:=(List.getElem?_eq_some_iff.1 hi).1
     have:(i+1)*e.sz≤n*e.sz:=AJ _ (by omega)
     rw [Nat.add_mul] at this
     omega
    rw [AA,if_pos AO]
    simpa using k2
 obtain ⟨olds,hpo,C4⟩:=holds
 have FP:news.length=m*e.sz:=by rw [EG.1,hm]
 rcases ed (P:=P) (ty:=o.type) hu Em hz Bu Iu hU hlen hx FP h1 hpo Fp Uz with ⟨b,cur,TT,ym,rfl,hh,XD,hr⟩ | ⟨rfl,rfl,hr⟩ | ⟨LU,IT,SE,hr⟩
 ·rcases Ej with ⟨hp,_⟩ | ⟨b',cur',TT',hp,ER,DS,Co,cR⟩
  ·cases hp
  ·cases hp
   rw [hh] at DS;cases DS
   obtain ⟨g',B9,hR⟩:=hI.Ztu ER hh Co XD JT mr Yk1 EG hm cR
   exact ⟨g',_,_,BA _ _ hr,B9,hR⟩
 ·-- nothing behind nothing
  have Df:n=0∧cap=0:=by
   rcases Ej with ⟨_,h2,h3⟩ | ⟨b,cur,TT,hp,_⟩
   ·exact ⟨h2,h3⟩
   ·cases hp
  obtain ⟨rfl,rfl⟩:=Df
  have Iw:l=[]:=AI CM
  have Yp4:l'=[]:=AI hm
  subst Iw;subst Yp4
  obtain ⟨B9,Dt⟩:=hI.uU (Below.refl w.heap.size w) (ρ:=fun i=>if i=id then some none else none) (σ':=σ.Cz id) (g':=g.Kt id none)
   (by unfold G.Kt;congr 1;funext i;rw [BD];by_cases hi:i=id <;> simp [hi])
   (by unfold St.Cz;congr 1;funext i;rw [BD];by_cases hi:i=id <;> simp [hi])
   (fun i b u hi=>by split at hi <;> cases hi)
   (fun i j b u u' hi hj=>by split at hi <;> cases hi)
  refine ⟨_,_,_,BA _ _ hr,B9,[.slice none 0 0],⟨none,0,0,rfl,rfl,Ah _,Nat.zero_le _,fun i x hi=>by simp at hi⟩,rfl,fun t ht=>?_⟩
  have GV:t=⟨0,id,σ.r id+1,e.sg⟩:=by simpa using ht
  subst GV
  exact ⟨fun h0=>absurd h0 mr,fun _=>⟨by simp [St.Cz,BD],fun _=> .inl rfl⟩⟩
 ·obtain ⟨g',B9,hR⟩:=gn hI (w':=w.drew.alloc (.cells (olds.toArray++news.toArray++Builtin.zeroCells (valOf e e.zcells).cells (LU-(n+m))) ET)) (nb:=w.heap.size) (id:=id) (n:=n+m) (cap:=LU)
   ((eg w).trans (L6 w.drew _)) (Ah _) (Jd w.drew _) (C4.append EG) (by rw [Ae,CM,hm]) (fun j u hj=>by
    rw [Array.getElem?_append_left (by simpa using (List.getElem?_eq_some_iff.1 hj).1)]
    simpa using hj)
   (by
    rw [Array.size_append,Array.size_append,List.size_toArray,List.size_toArray,size_zeroCells,Ia,C4.1,CM,FP,← Nat.add_mul,← Nat.add_mul]
    congr 1
    omega) IT SE mr (hE.nr hT hu)
  exact ⟨g',_,_,BA _ _ hr,B9,hR⟩
theorem Zjq (hE:EnvOk P E) (hI:Inv B ok0 w0 g σ a w) (hd:∀ d,o.dst=some d→d<a.tmps.size) {T U:TypeId} {c:Call} (ho:o.op = .call c) (hc:c.callee = .builtin .append) {s x:Operand}
  (ha:c.args.toList=[s,x]) (FI:c.argTypes.toList=[T,U]) {id ver:Nat} (hs:A8 σ s = .slw id ver):Dp P B ok0 w0 (OV E T U o σ id ver (A8 σ x)) o a w:=by
 unfold OV
 split
 ·rename_i d e e' l Fs hT Mv
  split
  ·rename_i L2
   have Yq4:=L2.1
   have mv:id<pid0:=Nat.le_of_ble_eq_true L2.2
   split
   ·rename_i l' y hl hy
    obtain ⟨ee,hll⟩:=Fj hl
    have Ss:e'=e:=by cases ee;rfl
    subst Ss
    have Yr4:l=l':=hll
    subst Yr4
    unfold Tn at hy
    split at hy
    ·rename_i eU hU
     obtain ⟨EU,_,Uy,_⟩:=(hE.ty U _ hU).und
     obtain ⟨ET,ie,hu,Em,Bu,hz,_⟩:=(hE.ty T _ hT).und
     obtain ⟨Iu,Uz⟩:=hE.by_ T e' ET ie hT hu Em
     have rs:=Ec hI s
     rw [hs] at rs
     obtain ⟨e2,l2,Hp,B2,Io⟩:=rs.2 Yq4
     rw [Mv] at B2;cases B2
     obtain ⟨px,nx,Xc,news,UA,JV,_,_,EG,h1,C8⟩:=Yd hI hy (Ec hI x)
     have Ln:c.args = #[s,x]:=by rw [← Array.toArray_toList (xs:=c.args),ha]
     have Pw:c.argTypes = #[T,U]:=by rw [← Array.toArray_toList (xs:=c.argTypes),FI]
     refine go_ok hd fun mu=>?_
     have Fp:(List.length (α:=e'.D) l+nx)*E.by_ T≤140737488355328:=by rw [← JV];exact Ak mu
     have FP:news.length=nx*e'.sz:=by rw [EG.1,JV]
     have Ia:(valOf e' e'.zcells).cells.size=e'.sz:=by
      rw [Nv (He (fun _ _=>True) w e'),List.size_toArray,(He (fun _ _=>True) w e').len]
     have TG:∀ w',w'.heap=w.heap→(Builtin.firstCells e'.sz nx (a.eval x)).run P w' = .ok news.toArray w':=by
      intro w' hw'
      rw [UA]
      rcases C8 with h0 | ⟨A,hA,ns,CP⟩
      ·subst h0
       have:news=[]:=AI (by rw [FP,Nat.zero_mul])
       subst this
       cases px with
       | none=>simp [Builtin.firstCells]
       | some A=>exact run_firstCells_some (P:=P) w' e'.sz 0 A 0 Xc [] (by simp) (fun j u hj=>by simp at hj)
      ·subst hA
       refine run_firstCells_some (P:=P) w' e'.sz nx A nx Xc news (by rw [FP]) fun j u hj=>?_
       rw [Hx A ns]
       have:=CP j u hj
       simp only [World.cell?,hw'] at this ⊢
       exact this
     have BA:∀ sv v w',a.eval s=sv→(Builtin.append_ #[T,U] o.type #[sv,a.eval x]).run P w = .ok v w'→(execOp a.eval o).run P w = .ok (.value v) w':=by
      intro sv v w' hsv Ho
      unfold execOp;rw [ho]
      simp [resolve,hc,Ln,Pw,invoke,builtin,hsv,Ho]
     -- the rows of the old content, for whatever cells hold them
     have bz:(σ.Cw id (.arr e' (l++y) false)).v id = σ.v id+1:=by simp [St.Cw,BD]
     have bA:(σ.Cw id (.arr e' (l++y) false)).c id=some (.arr e' (l++y) false):=by simp [St.Cw,BD]
     rcases Io with ⟨Sm,Iw,Lp⟩ | ⟨b,f,cap,cur,TT,ym,hb,hh,Co,hn,JT,Lp⟩
     ·-- nil
      have W6:l=[]:=AI Iw
      subst W6
      rcases ed (P:=P) (ty:=o.type) hu Em hz Bu Iu (.inl ⟨EU,Uy⟩) (p:=none) (n:=0) (cap:=0) (olds:=[]) (fun w=>by rw [UA];rfl) TG FP h1 (.inl ⟨rfl,rfl,rfl,rfl⟩) Fp Uz with
       ⟨b,cur,TT,y',hp,_⟩ | ⟨_,mH,hr⟩ | ⟨LU,IT,SE,hr⟩
      ·cases hp
      ·subst mH
       have MB:y=[]:=AI JV
       subst MB
       exact ⟨_,_,_,BA _ _ _ Lp hr,hI.zN id e',by rw [bz];exact Ah _,fun _=>⟨e',[],false,bA, .inl ⟨by simp [BD],rfl,rfl⟩⟩⟩
      ·refine ⟨g.Dq id w.heap.size false,_,_,BA _ _ _ Lp hr,hI.Cw mv (w':=w.drew.alloc (.cells ((([]:List Value).toArray++news.toArray++Builtin.zeroCells (valOf e' e'.zcells).cells (LU-(0+nx)))) ET)) ((eg w).trans (L6 w.drew _)) (Ah _) ((Array.getElem?_eq_some_iff.1 (Jd w.drew _)).1) (fun ok g' σ' Dt=>?_),?_⟩
       ·refine ⟨rfl,_,ET,_,Jd w.drew _, .inl rfl,?_,by rw [AH];omega,fun i z hi=>?_⟩
        ·rw [AH,JV];simp [FP]
        ·rw [AH] at hi
         obtain ⟨ys,Eh,B4⟩:=EG.2 i z hi
         refine ⟨ys,Eh.mono Dt.cell,fun j u hj=>?_⟩
         have:=B4 j u hj
         have AO:=(List.getElem?_eq_some_iff.1 this).1
         rw [Array.getElem?_append_left (by simpa using AO)]
         simpa using this
       ·refine ⟨by rw [bz];exact Ah _,fun _=>⟨e',_,false,bA, .inr ⟨w.heap.size,false,LU,_,ET,_,by simp [G.Dq,BD],Jd w.drew _,?_,by rw [AH,JV];omega,SE,by rw [AH,JV];simp⟩⟩⟩
        rw [Array.size_append,Array.size_append,List.size_toArray,List.size_toArray,size_zeroCells,Ia,FP,List.length_nil,Au,← Nat.add_mul]
        congr 1
        omega
     ·obtain ⟨Jv,QT,TT2,y2,hh2,Il,Yx2,Kf,BO⟩:=hI.Hj hb Mv
      rw [hh] at hh2;cases hh2
      have hff:f=false:=Jv
      subst hff
      have Sb:cur.toList.length=cur.size:=Array.length_toList
      have cQ:List.length (α:=e'.D) l*e'.sz≤cap*e'.sz:=AJ _ hn
      have hold:∀ (i:Nat) (z:e'.D),l[i]? = some z→∀ (ys:List Value),ys.length=e'.sz→∀ j,j<ys.length→i*e'.sz+j<List.length (α:=e'.D) l*e'.sz:=by
       intro i z hi ys nt j hj
       have h3:=(List.getElem?_eq_some_iff.1 hi).1
       have:(i+1)*e'.sz≤List.length (α:=e'.D) l*e'.sz:=AJ _ h3
       rw [Nat.add_mul] at this
       omega
      rcases ed (P:=P) (ty:=o.type) hu Em hz Bu Iu (.inl ⟨EU,Uy⟩) (p:=some ⟨b,0,none⟩) (n:=List.length (α:=e'.D) l) (cap:=cap) (olds:=cur.toList.take (List.length (α:=e'.D) l*e'.sz)) (fun w=>by rw [UA];rfl) TG FP h1 (.inr ⟨b,cur,TT,ym,rfl,hh,Il.un,Co,hn,rfl⟩) Fp Uz with
       ⟨b',cur',TT',y',hp,DS,XD,hr⟩ | ⟨hp,_⟩ | ⟨LU,IT,SE,hr⟩
      ·cases hp
       rw [hh] at DS;cases DS
       have DY:List.length (α:=e'.D) l*e'.sz+news.length≤cur.toList.length:=by
        rw [FP,Sb,Co,← Nat.add_mul];exact AJ _ XD
       have Jn:=setRow_heap w b _ (Dy cur.toList (List.length (α:=e'.D) l*e'.sz) news).toArray _ _ hh
       refine ⟨g,_,_,BA _ _ _ Lp hr,hI.Yrt hb (fun ok σ' Dt=>?_) (fun cur' T' _ hh3=>by rw [hh] at hh3;cases hh3;rw [List.size_toArray,Kk DY,Sb]),?_⟩
       ·refine ⟨rfl,_,TT,_,Jn,Il.eq (by rw [List.size_toArray,Kk DY,Sb]),?_,by rw [Ae,JV];omega,fun i z hi=>?_⟩
        ·rw [Ae,JV,Nat.add_mul,List.size_toArray,Kk DY,Sb,Co,← Nat.add_mul];exact AJ _ XD
        ·by_cases AO:i<List.length (α:=e'.D) l
         ·rw [AD AO] at hi
          obtain ⟨ys,Eh,B4⟩:=BO i z hi
          refine ⟨ys,Eh.mono Dt.cell,fun j u hj=>?_⟩
          have h3:=hold i z hi ys Eh.len j (List.getElem?_eq_some_iff.1 hj).1
          rw [List.getElem?_toArray]
          unfold Dy
          rw [Al,AD (by rw [Ag];omega),AA,if_pos h3]
          simpa using B4 j u hj
         ·rw [Aw (by omega)] at hi
          obtain ⟨ys,Eh,B4⟩:=EG.2 _ z hi
          refine ⟨ys,Eh.mono Dt.cell,fun j u hj=>?_⟩
          have h3:=B4 j u hj
          have h4:=(List.getElem?_eq_some_iff.1 h3).1
          have h5:List.length (α:=e'.D) l*e'.sz≤i*e'.sz:=AJ _ (by omega)
          rw [Nat.sub_mul] at h3 h4
          rw [List.getElem?_toArray]
          unfold Dy
          rw [Al,Aw (by rw [Ag];omega),AD (by rw [Ag];omega),← h3]
          congr 1
          rw [Ag]
          omega
       ·refine ⟨by rw [bz];exact Ah _,fun _=>⟨e',_,false,bA, .inr ⟨b,false,cap,_,TT,_,hb,Jn,?_,by rw [Ae,JV];exact XD,JT,by rw [Ae,JV]⟩⟩⟩
        rw [List.size_toArray,Kk DY,Sb,Co]
      ·cases hp
      ·refine ⟨g.Dq id w.heap.size false,_,_,BA _ _ _ Lp hr,hI.Cw mv (w':=w.drew.alloc (.cells (((cur.toList.take (List.length (α:=e'.D) l*e'.sz)).toArray++news.toArray++Builtin.zeroCells (valOf e' e'.zcells).cells (LU-(List.length (α:=e'.D) l+nx)))) ET)) ((eg w).trans (L6 w.drew _)) (Ah _) ((Array.getElem?_eq_some_iff.1 (Jd w.drew _)).1) (fun ok g' σ' Dt=>?_),?_⟩
       ·have HU:(cur.toList.take (List.length (α:=e'.D) l*e'.sz)).length=List.length (α:=e'.D) l*e'.sz:=by rw [Ag,Sb];omega
        refine ⟨rfl,_,ET,_,Jd w.drew _, .inl rfl,?_,by rw [Ae,JV];omega,fun i z hi=>?_⟩
        ·rw [Ae,JV,Nat.add_mul,Array.size_append,Array.size_append,List.size_toArray,List.size_toArray,HU,FP];omega
        ·by_cases AO:i<List.length (α:=e'.D) l
         ·rw [AD AO] at hi
          obtain ⟨ys,Eh,B4⟩:=BO i z hi
          refine ⟨ys,Eh.mono Dt.cell,fun j u hj=>?_⟩
          have h3:=hold i z hi ys Eh.len j (List.getElem?_eq_some_iff.1 hj).1
          rw [Array.getElem?_append_left (by rw [Array.size_append,List.size_toArray,HU];omega),Array.getElem?_append_left (by rw [List.size_toArray,HU];omega),List.getElem?_toArray,AA,if_pos h3]
          simpa using B4 j u hj
         ·rw [Aw (by omega)] at hi
          obtain ⟨ys,Eh,B4⟩:=EG.2 _ z hi
          refine ⟨ys,Eh.mono Dt.cell,fun j u hj=>?_⟩
          have h3:=B4 j u hj
          have h4:=(List.getElem?_eq_some_iff.1 h3).1
          have h5:List.length (α:=e'.D) l*e'.sz≤i*e'.sz:=AJ _ (by omega)
          rw [Nat.sub_mul] at h3 h4
          rw [Array.getElem?_append_left (by rw [Array.size_append,List.size_toArray,List.size_toArray,HU];omega),Array.getElem?_append_right (by rw [List.size_toArray,HU];omega),List.size_toArray,HU,List.getElem?_toArray,← h3]
          congr 1
          omega
       ·refine ⟨by rw [bz];exact Ah _,fun _=>⟨e',_,false,bA, .inr ⟨w.heap.size,false,LU,_,ET,_,by simp [G.Dq,BD],Jd w.drew _,?_,by rw [Ae,JV];exact IT,SE,by rw [Ae,JV]⟩⟩⟩
        have HU:(cur.toList.take (List.length (α:=e'.D) l*e'.sz)).length=List.length (α:=e'.D) l*e'.sz:=by rw [Ag,Sb];omega
        rw [Array.size_append,Array.size_append,List.size_toArray,List.size_toArray,size_zeroCells,Ia,HU,FP,← Nat.add_mul,← Nat.add_mul]
        congr 1
        omega
    ·cases hy
   ·exact Bp
  ·exact Bp
 ·exact Bp
theorem o7 {id lo n:Nat} {av:AV} (h:partOf σ av=some (id,lo,n)):∃ e l,σ.c id=some (.arr e l false)∧((∃ ver,av = .slw id ver∧σ.v id=ver∧lo=0∧n=List.length (α:=e.D) l)∨∃ ver,av = .slm id ver lo n∧σ.v id=ver):=by
 unfold partOf at h
 split at h
 ·split at h
  ·rename_i hv
   split at h
   ·rename_i e l hc
    cases h
    exact ⟨e,l,hc, .inl ⟨_,rfl,hv,rfl,rfl⟩⟩
   ·cases h
  ·cases h
 ·split at h
  ·rename_i hv
   split at h
   ·rename_i e l hc
    cases h
    exact ⟨e,l,hc, .inr ⟨_,rfl,hv⟩⟩
   ·cases h
  ·cases h
 ·cases h
theorem s3 (hI:Inv B ok0 w0 g σ a w) {id lo n:Nat} {e:Ty} {l:List e.D} {av:AV} {v:Value} (h:partOf σ av=some (id,lo,n)) (hc:σ.c id=some (.arr e l false)) (hr:RepA (okG B ok0 g w) g σ w av v):
  ∃ p cap,v = .slice p n cap∧lo+n≤List.length (α:=e.D) l∧n≤cap∧cap≤maxLen∧(0<n→∃ b,g.bx id=some (b,false)∧p=some ⟨b,lo*e.sz,none⟩):=by
 obtain ⟨e1,l1,H8,h⟩:=o7 h
 rw [hc] at H8
 cases H8
 rcases h with ⟨ver,rfl,hv,rfl,rfl⟩ | ⟨ver,rfl,hv⟩
 ·obtain ⟨e2,l2,Hp,B2,Io⟩:=hr.2 hv
  rw [hc] at B2
  cases B2
  obtain ⟨p,cap,hp,Fa,Kf,hA,_⟩:=Io.form
  refine ⟨p,cap,hp,by omega,Fa,Kf,fun h0=>?_⟩
  obtain ⟨b,f,hb,DR⟩:=hA h0
  have hf:f=false:=(hI.Hj hb hc).1
  subst hf
  exact ⟨b,hb,by rw [Nat.zero_mul];exact DR⟩
 ·obtain ⟨e2,l2,Hp,A,cap,B2,MK,Fa,Kf,hA,KH,hp⟩:=hr.2 hv
  rw [hc] at B2
  cases B2
  refine ⟨A,cap,hp,MK,Fa,Kf,fun h0=>?_⟩
  obtain ⟨b,f,hb,DR⟩:=hA (by omega)
  have hf:f=false:=(hI.Hj hb hc).1
  subst hf
  exact ⟨b,hb,DR⟩
theorem pf {id:Nat} {c:Con} (hc:σ.c id=some c):σ.CR id c = σ:=by
 have:Ed σ.c id (some c) = σ.c:=by
  funext i
  rw [BD]
  split
  ·rename_i h;rw [h,hc]
  ·rfl
 unfold St.CR
 rw [this]
theorem s4 {α:Type} (l:List α) (lo:Nat):GN l lo []=l:=by unfold GN;simp
theorem fI {α:Type} {l:List α} {lo:Nat} {y:List α} (h:lo+y.length≤l.length):(GN l lo y).length=l.length:=by
 unfold GN
 rw [Ae,Ae,Ag,List.length_drop]
 omega
theorem zO (hI:Inv B ok0 w0 g σ a w) {id b lo:Nat} {e:Ty} {l y:List e.D} {ys:List Value} (hc:σ.c id=some (.arr e l false)) (hb:g.bx id=some (b,false)) (hy:IE (okG B ok0 g w) w e y ys) (h1:∀ u∈ys,u.oneCell'=true)
  (DY:lo+List.length (α:=e.D) y≤List.length (α:=e.D) l):
  ∃ w',(storeCells ⟨b,lo*e.sz,none⟩ ys).run P w = .ok () w'∧Inv B ok0 w0 g (σ.CR id (.arr e (GN l lo y) false)) a w':=by
 obtain ⟨_,cur,TT,ym,hh,Il,Bu,CL,BO⟩:=hI.Hj hb hc
 have MM:cur.toList.length=cur.size:=Array.length_toList
 have Hb:ys.length=List.length (α:=e.D) y*e.sz:=hy.1
 have hle:lo*e.sz+ys.length≤cur.size:=by
  rw [Hb,← Nat.add_mul]
  exact Nat.le_trans (AJ _ DY) Bu
 have EP:=XS P b (lo*e.sz) TT ym ys 0 cur w hh Il.un (by omega) h1
 simp only [Nat.add_zero] at EP
 unfold Dy at EP
 refine ⟨_,EP,hI.Y0 hc hb (fun e' l' fz he=>by cases he;exact ⟨_,false,rfl,fI DY⟩) (fun cur' T' _ DS=>by
  rw [hh] at DS
  cases DS
  rw [List.size_toArray,Ae,Ae,Ag,List.length_drop,MM]
  omega) fun ok σ' Dt=>?_⟩
 refine ⟨rfl,_,TT,ym,setRow_heap w b _ _ _ _ hh,Il.eq (by rw [List.size_toArray,Ae,Ae,Ag,List.length_drop,MM];omega),?_,by rw [fI DY];exact CL,fun k x hk=>?_⟩
 ·rw [fI DY,List.size_toArray,Ae,Ae,Ag,List.length_drop,MM]
  omega
 have CB:∀ (i:Nat) (zs:List Value),zs.length=e.sz→∀ j v,zs[j]? = some v→j<e.sz:=fun i zs hz j v hj=>by
  have:=(List.getElem?_eq_some_iff.1 hj).1
  omega
 by_cases Xp:k<lo
 ·have CF:l[k]? = some x:=by
   unfold GN at hk
   rw [AD (by rw [Ag];omega),AA,if_pos Xp] at hk
   exact hk
  obtain ⟨zs,Ns,Ia⟩:=BO k x CF
  refine ⟨zs,Ns.mono Dt.cell,fun j v hj=>?_⟩
  have hj1:=CB k zs Ns.len j v hj
  have Oe:(k+1)*e.sz≤lo*e.sz:=AJ _ Xp
  rw [Nat.add_mul] at Oe
  rw [List.getElem?_toArray,Al,AD (by rw [Ag,MM];omega),AA,if_pos (by omega)]
  simpa using Ia j v hj
 ·by_cases LX:k<lo+List.length (α:=e.D) y
  ·have CF:y[k-lo]? = some x:=by
    unfold GN at hk
    rw [Aw (by rw [Ag];omega),Ag,AD (by omega),show min lo (List.length (α:=e.D) l)=lo by omega] at hk
    exact hk
   obtain ⟨zs,Ns,Ia⟩:=hy.2 _ x CF
   refine ⟨zs,Ns.mono Dt.cell,fun j v hj=>?_⟩
   have h3:=Ia j v hj
   have h4:=(List.getElem?_eq_some_iff.1 h3).1
   have h5:lo*e.sz≤k*e.sz:=AJ _ (by omega)
   rw [Nat.sub_mul] at h3 h4
   rw [List.getElem?_toArray,Al,Aw (by rw [Ag];omega),Ag,MM,AD (by omega),← h3]
   congr 1
   omega
  ·have CF:l[k]? = some x:=by
    unfold GN at hk
    rw [Aw (by rw [Ag];omega),Ag,Aw (by omega),List.getElem?_drop] at hk
    rw [← hk]
    congr 1
    omega
   obtain ⟨zs,Ns,Ia⟩:=BO k x CF
   refine ⟨zs,Ns.mono Dt.cell,fun j v hj=>?_⟩
   have h5:(lo+List.length (α:=e.D) y)*e.sz≤k*e.sz:=AJ _ (by omega)
   rw [Nat.add_mul,← Hb] at h5
   rw [List.getElem?_toArray,Aw (by rw [Ae,Ag,MM];omega),List.getElem?_drop,Ae,Ag,MM]
   rw [show lo*e.sz+ys.length+(k*e.sz+j-(min (lo*e.sz) cur.size+ys.length))=k*e.sz+j by omega]
   simpa using Ia j v hj
theorem Zuu {ok:Nat→Nat→Prop} {e:Ty} (n:Nat):IE ok w e (List.replicate n e.zero) ((List.replicate n e.zcells).flatten):=
 ⟨by rw [P7,AK],fun i x hi=>fJ n i x hi⟩
theorem Zh6 {e:Ty} (n:Nat):∀ u∈(List.replicate n e.zcells).flatten,u.oneCell'=true:=fun u hu=>by
 obtain ⟨z,hz,hu⟩:=List.mem_flatten.1 hu
 rw [List.eq_of_mem_replicate hz] at hu
 exact (He (fun _ _=>True) (default:World) e).one u hu
theorem Zu5 (hE:EnvOk P E) (hI:Inv B ok0 w0 g σ a w) (hd:∀ d,o.dst=some d→d<a.tmps.size) {T:TypeId} {c:Call} (ho:o.op = .call c) (Ct:c.callee = .builtin .clear) {s:Operand}
  (ha:c.args.toList=[s]) (FI:c.argTypes.toList=[T]):Dp P B ok0 w0 (O3 E T o σ (A8 σ s)) o a w:=by
 unfold O3
 split
 ·rename_i id lo n e hp hT
  split
  ·rename_i e' l hc
   split
   ·rename_i hee
    subst hee
    obtain ⟨p,cap,hv,CM,_,_,QZ⟩:=s3 hI hp hc (Ec hI s)
    obtain ⟨ET,ie,hu,Em,Bu,hz,_⟩:=(hE.ty T _ hT).und
    have Ln:c.args = #[s]:=by rw [← Array.toArray_toList (xs:=c.args),ha]
    have Pw:c.argTypes = #[T]:=by rw [← Array.toArray_toList (xs:=c.argTypes),FI]
    have BA:∀ w',(Builtin.clear_ #[T] o.type #[a.eval s]).run P w = .ok (.tuple #[]) w'→(execOp a.eval o).run P w = .ok (.value (.tuple #[])) w':=by
     intro w' Ho
     unfold execOp;rw [ho]
     simp [resolve,Ct,Ln,Pw,invoke,builtin,Ho]
    refine go_ok hd fun _=>?_
    cases n with
    | zero=>
     refine ⟨g,w,_,BA w ?_,?_,[],rfl,trivial⟩
     ·rw [hv]
      cases p <;> simp [Builtin.clear_,run_underlying hu]
     ·rw [show List.replicate 0 e'.zero=[] from rfl,s4,pf hc]
      exact hI
    | succ m=>
     obtain ⟨b,hb,rfl⟩:=QZ (Nat.succ_pos m)
     obtain ⟨w',h1,h2⟩:=zO (P:=P) hI hc hb (Zuu (m+1)) (Zh6 (m+1)) (lo:=lo) (by rw [AK];exact CM)
     refine ⟨g,w',_,BA w' ?_,h2,[],rfl,trivial⟩
     rw [hv]
     have hzv:∀ w,(zeroValue ET).run P w = .ok (valOf e' e'.zcells) w:=fun w=>by
      unfold zeroValue
      simp [typeInfo,Em,hz]
     have Ia:(valOf e' e'.zcells).cells=e'.zcells.toArray:=Nv (He (fun _ _=>True) w e')
     have Ns:(Builtin.zeroCells e'.zcells.toArray (m+1)).toList=(List.replicate (m+1) e'.zcells).flatten:=by
      have hl:=(He (fun _ _=>True) (default:World) e').len
      have h:=uV (e:=e') (n:=m+1)
      unfold madeCells at h
      unfold Builtin.zeroCells
      rw [List.size_toArray,hl]
      rw [List.size_toArray,hl] at h
      rw [h]
     simp [Builtin.clear_,run_underlying hu,hzv,Ia,Ns,h1]
   ·exact Bp
  ·exact Bp
 ·exact Bp
theorem Yhn (hE:EnvOk P E) (hI:Inv B ok0 w0 g σ a w) (hd:∀ d,o.dst=some d→d<a.tmps.size) {T U:TypeId} {c:Call} (ho:o.op = .call c) (Ct:c.callee = .builtin .copy) {s x:Operand}
  (ha:c.args.toList=[s,x]) (FI:c.argTypes.toList=[T,U]):Dp P B ok0 w0 (O9 E T U o σ (A8 σ s) (A8 σ x)) o a w:=by
 unfold O9
 split
 ·rename_i id lo n e hp hT
  split
  ·rename_i e' l y0 hc hy
   split
   ·rename_i y nu
    obtain ⟨ee,nu⟩:=Fj nu
    have Ss:e=e':=by cases ee;rfl
    subst Ss
    have Ys4:y0=y:=nu
    subst Ys4
    unfold Tn at hy
    split at hy
    ·rename_i eU hU
     obtain ⟨p,cap,hv,CM,_,_,QZ⟩:=s3 hI hp hc (Ec hI s)
     obtain ⟨ET,ie,hu,Em,Bu,hz,_⟩:=(hE.ty T _ hT).und
     obtain ⟨px,nx,Xc,news,UA,JV,_,_,EG,h1,C8⟩:=Yd hI hy (Ec hI x)
     have Ln:c.args = #[s,x]:=by rw [← Array.toArray_toList (xs:=c.args),ha]
     have Pw:c.argTypes = #[T,U]:=by rw [← Array.toArray_toList (xs:=c.argTypes),FI]
     have BA:∀ v w',(Builtin.copy_ #[T,U] o.type #[a.eval s,a.eval x]).run P w = .ok v w'→(execOp a.eval o).run P w = .ok (.value v) w':=by
      intro v w' Ho
      unfold execOp;rw [ho]
      simp [resolve,Ct,Ln,Pw,invoke,builtin,Ho]
     have Zvh:(sizeOf ET).run P w = .ok e.sz w:=by
      unfold sizeOf
      simp [typeInfo,Em,Bu]
     have hk:Nat.min nx n=List.length (α:=e.D) (List.take n y0):=by
      rw [Ag,JV];exact Nat.min_comm _ _
     have bB:IE (okG B ok0 g w) w e (List.take n y0) (news.take (Nat.min nx n*e.sz)):=by
      refine ⟨?_,fun i z hi=>?_⟩
      ·rw [← hk,Ag,EG.1,JV]
       exact Nat.min_eq_left (AJ _ (Nat.min_le_left _ _))
      ·rw [AA] at hi
       split at hi
       ·rename_i CB
        obtain ⟨ys,Eh,B4⟩:=EG.2 i z hi
        refine ⟨ys,Eh,fun j u hj=>?_⟩
        have hj1:j<e.sz:=by have:=(List.getElem?_eq_some_iff.1 hj).1;rw [Eh.len] at this;exact this
        have hi1:i<nx:=by have:=(List.getElem?_eq_some_iff.1 hi).1;omega
        have h5:(i+1)*e.sz≤Nat.min nx n*e.sz:=AJ _ (Nat.le_min.2 ⟨hi1,CB⟩)
        rw [Nat.add_mul] at h5
        rw [AA,if_pos (by omega)]
        exact B4 j u hj
       ·cases hi
     have LX:(news.take (Nat.min nx n*e.sz)).length=Nat.min nx n*e.sz:=by rw [bB.1,hk]
     have TG:(Builtin.firstCells e.sz (Nat.min nx n) (a.eval x)).run P w = .ok (news.take (Nat.min nx n*e.sz)).toArray w:=by
      rw [UA]
      rcases C8 with h0 | ⟨A,hA,ns,CP⟩
      ·subst h0
       have Un:Nat.min 0 n=0:=Nat.zero_min n
       rw [Un,Nat.zero_mul,List.take_zero]
       cases px with
       | none=>simp [Builtin.firstCells]
       | some A=>exact run_firstCells_some (P:=P) w e.sz 0 A 0 Xc [] (by simp) (fun j u hj=>by simp at hj)
      ·subst hA
       refine run_firstCells_some (P:=P) w e.sz _ A nx Xc _ LX fun j u hj=>?_
       rw [Hx A ns]
       rw [AA] at hj
       split at hj
       ·exact CP j u hj
       ·cases hj
     have hlen:(Builtin.lenOf (a.eval x)).run P w = .ok nx w:=by rw [UA];rfl
     refine go_ok hd fun _=>?_
     rcases Nat.eq_zero_or_pos n with h0 | h0
     ·subst h0
      refine ⟨g,w,_,BA (goInt 0) w ?_,?_,[_],rfl,rfl,fun t ht=>by cases ht⟩
      ·have Un:Nat.min nx 0=0:=Nat.min_zero nx
       rw [Un,Nat.zero_mul,List.take_zero] at TG
       rw [hv]
       cases p <;> simp [Builtin.copy_,run_underlying hu,hlen,Un,Zvh,TG,storeCells]
      ·rw [List.take_zero,s4,pf hc]
       exact hI
     ·obtain ⟨b,hb,rfl⟩:=QZ h0
      obtain ⟨w',h2,h3⟩:=zO (P:=P) hI hc hb bB (fun u hu=>h1 u (List.mem_of_mem_take hu)) (lo:=lo) (by rw [Ag];omega)
      refine ⟨g,w',_,BA (goInt (Nat.min nx n)) w' ?_,h3,[_],rfl,by rw [hk];rfl,fun t ht=>by cases ht⟩
      rw [hv]
      simp [Builtin.copy_,run_underlying hu,hlen,Zvh,TG,h2]
    ·cases hy
   ·exact Bp
  ·exact Bp
 ·exact Bp
theorem sU (hI:Inv B ok0 w0 g σ a w) (hd:∀ d,o.dst=some d→d<a.tmps.size) {x:Operand} (ho:o.op = .move x∨o.op = .assign x):
  Dp P B ok0 w0 (Mo E o σ (NN x) (A8 σ x)) o a w:=by
 have hold:=Yon (P:=P) (E:=E) hI hd ho
 unfold Mo
 split
 ·rename_i d hx Fs
  rw [hx] at hold
  cases Db:(E.bx d && NN x) with
  | false=>exact hold
  | true=>
   dsimp only [cond_true]
   split
   ·rename_i e hT
    have rx:=Ec hI x
    rw [hx] at rx
    have hv:a.eval x = .slice none 0 0:=rx
    refine go_ok hd fun _=>⟨_,w, .slice none 0 0,?_,hI.zN d e,by simp [St.Cw,BD],fun _=>⟨e,[],false,by simp [St.Cw,BD], .inl ⟨by simp [BD],rfl,rfl⟩⟩⟩
    have hr:(execOp a.eval o).run P w = .ok (.value (a.eval x)) w:=by rcases ho with ho | ho <;> · unfold execOp;rw [ho];rfl
    rw [hr,hv]
   ·exact Bp
 ·exact hold
end
end Go.AM
end

section
/- Calls of functions whose contracts are known; appends and strings' bytes, put together. -/
namespace Go.AM
open Go.RowKit (Below)
set_option linter.unusedSectionVars false
variable [Lay]
def NR (ok:Nat→Nat→Prop) (w:World):AV→Value→Prop
 | .dat t x _,v=>∃ cs,RepD ok w t x cs∧v=valOf t cs
 | .ept t x off,v=>IQ ok w t x off v
 | .fn f caps,v=>∃ vs:List Value,v = .func (.func f) #[] vs.toArray∧CA (fun (d:Dat) u=>IQ ok w d.t d.x 0 u) caps vs
 | _,_=>False
def Ge:List Tag→Nat
 | []=>0
 | t :: r=>if t.id=0 then Ge r else Ge r+1
def OX (ρ:Nat→Option (Nat×Nat)) (w:World) (cs:List Value):Nat→List Tag→Prop
 | _,[]=>True
 | j,t :: r=>if t.id=0 then cs[t.off]? = some (.slice none 0 0)∧OX ρ w cs j r else TV ⟨fun _=>none,ρ⟩ w t.sz j cs[t.off]?∧OX ρ w cs (j+1) r
def DE (ok0:Nat→Nat→Prop) (w w':World) (rws:List (Option (Nat×Nat))) (ρ:Nat→Option (Nat×Nat)) (b o:Nat):Prop:=
 ok0 b o∨((w.heap.size≤b∨∃ u,some (b,u)∈rws)∧b<w'.heap.size∧∀ j u,ρ j=some (b,u)→o<u)
def K4 (ok:Nat→Nat→Prop) (ρ:Nat→Option (Nat×Nat)) (w:World):Nat→List Dat→List Value→Prop
 | _,[],[]=>True
 | j,d :: ds,v :: vs=>(∃ cs,RepD ok w d.t d.x cs∧v=valOf d.t cs∧OX ρ w cs j d.g)∧K4 ok ρ w (j+Ge d.g) ds vs
 | _,_,_=>False
def TE (w:World) (cs:List Value):List Tag→List (Option (Nat×Nat))→List (Option (Nat×Nat))→Prop
 | [],rs,r=>rs=r
 | τ :: h,rs,r=>∃ q r1,rs=q :: r1∧TE w cs h r1 r∧match q with
  | none=>cs[τ.off]? = some (.slice none 0 0)
  | some (b,u)=>∃ n cap cur T,cs[τ.off]? = some (.slice (some ⟨b,0,none⟩) n cap)∧u=n*N6 τ.sz∧w.heap[b]? = some (.cells cur T (0,0))∧cur.size=cap*N6 τ.sz∧n≤cap∧cap≤maxLen∧(τ.sz=0→T=Lay.byt)
def J9 (ok:Nat→Nat→Prop) (w:World) (e:Ty) (l:List e.D) (cur:Array Value):Prop:=
 ∀ (i:Nat) (x:e.D),l[i]? = some x→∃ ys,RepD ok w e x ys∧∀ j u,ys[j]? = some u→cur[i*e.sz+j]? = some u
def WB (ok:Nat→Nat→Prop) (w:World) (a:AV) (v:Value) (bs r:List Nat) (rs s:List (Option (Nat×Nat))):Prop:=
 match a with
 | .iov t x g=>∃ b,bs=b :: r∧v = .pointer (some ⟨b,0,none⟩)∧∃ cs T,w.heap[b]? = some (.cells cs.toArray T (0,0))∧RepD ok w t x cs∧VJ b t T cs∧TE w cs g rs s
 | .ioa e l=>∃ b cap cur T,bs=b :: r∧rs=s∧v = .slice (some ⟨b,0,none⟩) (List.length (α:=e.D) l) cap∧w.heap[b]? = some (.cells cur T (0,0))∧cur.size=cap*e.sz∧
   List.length (α:=e.D) l≤cap∧cap≤maxLen∧0<List.length (α:=e.D) l∧J9 ok w e l cur
 | a=>NR ok w a v∧bs=r∧rs=s
def KV (ok:Nat→Nat→Prop) (w:World):List AV→List Value→List Nat→List (Option (Nat×Nat))→Prop
 | [],[],bs,rs=>bs=[]∧rs=[]
 | a :: l,v :: vs,bs,rs=>∃ r s,WB ok w a v bs r rs s∧KV ok w l vs r s
 | _,_,_,_=>False
def Yn4 (ok:Nat→Nat→Prop) (ρ:Nat→Option (Nat×Nat)) (w:World) (j:Nat) (c:Con) (b:Nat):Prop:=
 match c with
 | .var t x g=>∃ cs T,w.heap[b]? = some (.cells cs.toArray T (0,0))∧RepD ok w t x cs∧VJ b t T cs∧OX ρ w cs j g
 | .arr e l f=>f=false∧∃ cur T y,w.heap[b]? = some (.cells cur T y)∧Mk e y cur.size∧List.length (α:=e.D) l*e.sz≤cur.size∧List.length (α:=e.D) l≤maxLen∧J9 ok w e l cur
 | .val _=>False
def QS:Con→Nat
 | .var _ _ g=>Ge g
 | _=>0
def Ld (ok:Nat→Nat→Prop) (ρ:Nat→Option (Nat×Nat)) (w:World):Nat→List Con→List Nat→Prop
 | _,[],[]=>True
 | j,d :: ds,b :: bs=>Yn4 ok ρ w j d b∧Ld ok ρ w (j+QS d) ds bs
 | _,_,_=>False
def K5:List Con→Nat
 | []=>0
 | x :: r=>QS x+K5 r
def JM:List Dat→Nat
 | []=>0
 | x :: r=>Ge x.g+JM r
def Zmh:AV→Nat
 | .dat _ _ g=>Ge g
 | .tup ds=>JM ds
 | _=>0
def TX (ok:Nat→Nat→Prop) (ρ:Nat→Option (Nat×Nat)) (w w':World) (D9:List Con) (bs:List Nat) (rws:List (Option (Nat×Nat))) (v:Value):AV→Prop
 | .dat t x g=>∃ cs,RepD ok w' t x cs∧v=valOf t cs∧OX ρ w' cs 0 g
 | .tup ds=>∃ vs:List Value,v = .tuple vs.toArray∧K4 ok ρ w' 0 ds vs
 | .bxv e l=>bs=[]∧rws=[]∧Hy e=true∧∃ b cap cur T,w.heap.size≤b∧b<w'.heap.size∧w'.heap[b]? = some (.cells cur T (0,0))∧cur.size=cap*e.sz∧
   List.length (α:=e.D) l≤cap∧cap≤maxLen∧v = .slice (some ⟨b,0,none⟩) (List.length (α:=e.D) l) cap∧J9 (fun _ _=>False) w' e l cur
 | .slp k n=>∃ b cap e l f A,bs[k]? = some b∧D9[k]? = some (.arr e l f)∧n≤List.length (α:=e.D) l∧n≤cap∧cap≤maxLen∧(n≠0→A=some ⟨b,0,none⟩)∧(∀ a:Addr,A=some a→a.spot=none)∧v = .slice A n cap
 | _=>False
def NS (ok0:Nat→Nat→Prop) (w w':World) (av:AV) (D9:List Con) (bs:List Nat) (rws:List (Option (Nat×Nat))) (v:Value):Prop:=
 ∃ ρ:Nat→Option (Nat×Nat),(∀ j b u,ρ j=some (b,u)→(w.heap.size≤b∨∃ u0,some (b,u0)∈rws∧u0≤u)∧b<w'.heap.size)∧(∀ j k b u u',ρ j=some (b,u)→ρ k=some (b,u')→j=k)∧
  Ld (DE ok0 w w' rws ρ) ρ w' (Zmh av) D9 bs∧TX (DE ok0 w w' rws ρ) ρ w w' D9 bs rws v av
def ZL (w:World) (bs:List Nat) (rws:List (Option (Nat×Nat))):Prop:=
 (∀ (i j b u u':Nat),rws[i]? = some (some (b,u))→rws[j]? = some (some (b,u'))→i=j)∧∀ b u,some (b,u)∈rws→b<w.heap.size∧b∉bs
def AY (P:Program) (f:FuncId) (s:Spec):Prop:=
 ∀ l r x,s l=some r→r.m=some x→∀ (ok0:Nat→Nat→Prop) (w:World) (vs:List Value) (bs:List Nat) (rws:List (Option (Nat×Nat))),(∃ z,Lay.ok z w∧(∀ b∈bs,z≤b)∧∀ b u,some (b,u)∈rws→z≤b)→
  (∀ b o,ok0 b o→b<w.heap.size∧b∉bs∧∀ u,some (b,u)∈rws→o<u)→bs.Nodup→(∀ b∈bs,b<w.heap.size)→ZL w bs rws→KV ok0 w l vs bs rws→
  Calls P f vs.toArray w fun e w'=>∃ v,e = .returned v∧BelowX ⟨w.heap.size,bs,rws⟩ w w'∧NS ok0 w w' (r.enc x) (r.io x) bs rws v
def Enters (P:Program) (f:FuncId):Prop:=∀ args w,(callFunc f args).run P w = .ok (.enter f args) w
def GJ (P:Program) (E:Env):Prop:=∀ f s,E.call f=some s→AY P f s∧Enters P f∧(E.lend f=true→Words s)
section
variable {P : Program} {B : Bd} {ok0 : Nat → Nat → Prop} {w0 w w' : World} {g g' : G} {σ σ1 : St} {a : Act} {o : Oper} {E : Env}
theorem Zru (hE:EnvOk P E) (hI:Inv B ok0 w0 g σ a w) (hd:∀ d,o.dst=some d→d<a.tmps.size) {T U:Nat} {c:Call} (ho:o.op = .call c) (hc:c.callee = .builtin .append) {s x:Operand}
  (ha:c.args.toList=[s,x]) (FI:c.argTypes.toList=[T,U]):Dp P B ok0 w0 (J2 E T U o σ (A8 σ s) (A8 σ x)) o a w:=by
 unfold J2
 split
 ·rename_i d e Fs hT
  obtain ⟨ET,ie,hu,Em,_⟩:=(hE.ty T _ hT).und
  split
  ·rename_i l hl
   split
   ·rename_i id hid
    split
    ·rename_i hU
     have Uy:P.underlying U=some .string:=(hE.ty U _ hU).und
     split
     ·rename_i l2 Kh
      split
      ·rename_i y gs hx
       have XA:=Ru hI hx
       have Bu:(Bi y).length=y.size:=by unfold Bi;rw [Ai,Array.length_toList];rfl
       have Yf1:=pc (news:=(Bi y).map (Value.int .u8)) (l':=Bi y) (m:=y.size) hE hI hd ho hc ha FI hT hu Em (.inr Uy) hl hid
        ⟨by simp [Ty.sz],fun i x hi=>⟨[.int .u8 x],rfl,fun j u hj=>by
         have SB:j=0:=by have:=(List.getElem?_eq_some_iff.1 hj).1;simp at this;exact this
         subst SB
         simp at hj
         subst hj
         simp only [Ty.sz,Nat.mul_one,Nat.add_zero,List.getElem?_map,hi]
         rfl⟩⟩ Bu (fun w=>by rw [XA];rfl) (fun w' _=>by
          rw [XA]
          simp only [Builtin.firstCells,Sem.run_pure,Bi,List.map_map]
          rw [show y.extract 0 y.size=y from ByteArray.extract_zero_size]
          congr 1
          apply Array.ext'
          rw [Array.toList_map]
          rfl) (fun u hu=>by
          obtain ⟨n,_,rfl⟩:=List.mem_map.1 hu
          rfl)
       exact Yf1
      ·exact Bp
     ·exact Bp
    ·rename_i e2 hU
     split
     ·rename_i y hy
      obtain ⟨EU,_,Uy,_⟩:=(hE.ty U _ hU).und
      obtain ⟨p,n,cap,cs,hv,CM,_,_,BO,h1,C8⟩:=Yd hI hy (Ec hI x)
      refine pc (news:=cs) (l':=y) (m:=y.length) hE hI hd ho hc ha FI hT hu Em (.inl ⟨EU,Uy⟩) hl hid BO rfl (fun w=>by rw [hv,CM];rfl) (fun w' hw'=>?_) h1
      rw [hv,CM]
      rcases C8 with h0 | ⟨A,hA,hs,CP⟩
      ·subst h0
       have:cs=[]:=AI (by rw [BO.1,CM,Nat.zero_mul])
       subst this
       cases p with
       | none=>simp [Builtin.firstCells]
       | some A=>exact run_firstCells_some (P:=P) w' e.sz 0 A 0 cap [] (by simp) (fun j u hj=>by simp at hj)
      ·subst hA
       refine run_firstCells_some (P:=P) w' e.sz n A n cap cs (by rw [BO.1,CM]) fun j u hj=>?_
       rw [Hx A hs]
       have:=CP j u hj
       simp only [World.cell?,hw'] at this ⊢
       exact this
     ·exact Bp
    ·exact Bp
   ·exact Bp
  ·exact Bp
 ·exact Bp
theorem Za6 (hE:EnvOk P E) (hI:Inv B ok0 w0 g σ a w) (hd:∀ d,o.dst=some d→d<a.tmps.size) {src dst:Nat} {x:Operand} (ho:o.op = .convert src dst x) (hs:E.ty src=some .str) (Xz:E.ty dst=some (.sl (.int .u8))):
  Dp P B ok0 w0 (Ly E src dst o σ (A8 σ x)) o a w:=by
 have u1:P.underlying src=some .string:=(hE.ty _ _ hs).und
 obtain ⟨ET,ie,u2,_,_,_,hk,_⟩:=(hE.ty _ _ Xz).und
 unfold Ly
 rw [hs,Xz]
 dsimp only
 split
 ·rename_i s gs hx
  have hr:=Lib.run_convert_string_bytes (P:=P) w src dst ET s u1 u2 (hk .u8 rfl)
  have BA:(execOp a.eval o).run P w = .ok (.value (.slice (some ⟨w.heap.size,0,none⟩) s.size (grownCap w s.size 0 ET))) (Lib.bytesWorld w ET s):=by
   unfold execOp;rw [ho]
   simp only [Ru hI hx,Sem.run_bind,hr,Result.andThen_ok,Sem.run_pure]
  have hb:Below w.heap.size w (Lib.bytesWorld w ET s):=⟨rfl,rfl,rfl,by rw [Lib.bytesWorld_size];omega,fun k hk=>Lib.bytesWorld_at_old w ET s k hk⟩
  have SC:B.n≤w.heap.size:=by have:=hI.below.size;have:=hI.hB;omega
  have hlen:(Bi s).length=s.size:=by unfold Bi;rw [Ai,Array.length_toList];rfl
  split
  ·rename_i d Fs Db
   refine go_ok hd fun hc=>?_
   have Fp:s.size*1≤140737488355328:=Ak hc
   have Bu:(Lib.bytesCells w ET s).size=grownCap w s.size 0 ET:=by
    have h1:=grownCap_ge w s.size 0 ET
    have h2:s.data.size=s.size:=rfl
    simp only [Lib.bytesCells,Array.size_append,Array.size_map,Array.size_replicate,h2]
    omega
   have CL:grownCap w s.size 0 ET≤maxLen:=grownCap_le_maxLen w s.size 0 ET (by unfold maxLen;omega)
   have IT:=grownCap_ge w s.size 0 ET
   refine ⟨g.Dq d w.heap.size false,_,_,BA,hI.Cw (Nat.lt_of_lt_of_le (hd _ Fs) hI.tm) hb (Ah _) (by rw [Lib.bytesWorld_size];omega) (fun ok g' σ' hx=>?_),?_⟩
   ·refine ⟨rfl,_,ET,_,Lib.bytesWorld_at_new w ET s, .inr ⟨rfl,Ah _⟩,?_,?_,fun i n hi=>?_⟩
    ·rw [hlen,Bu];simpa [Ty.sz] using IT
    ·rw [hlen];omega
    ·have CB:i<s.size:=by rw [← hlen];exact (List.getElem?_eq_some_iff.1 hi).1
     refine ⟨[.int .u8 n],rfl,fun j u hj=>?_⟩
     have SB:j=0:=by have:=(List.getElem?_eq_some_iff.1 hj).1;simp at this;exact this
     subst SB
     simp at hj
     subst hj
     have C8:=Lib.bytesWorld_cell w ET s i CB
     simp only [World.cell?,Lib.bytesWorld_at_new] at C8
     simp only [Ty.sz,Nat.mul_one,Nat.add_zero]
     unfold Bi at hi
     rw [List.getElem?_map] at hi
     cases hq:s.data.toList[i]? with
     | none=>rw [hq] at hi;cases hi
     | some b=>
      rw [hq] at hi
      simp only [Option.map_some,Option.some.injEq] at hi
      subst hi
      rw [Ax,hq] at C8
      simpa using C8
   ·exact ⟨by simp [St.Cw,BD],fun _=>⟨.int .u8,Bi s,false,by simp [St.Cw,BD], .inr ⟨w.heap.size,false,grownCap w s.size 0 ET,_,ET,_,by simp [G.Dq,BD],Lib.bytesWorld_at_new w ET s,by rw [Bu];simp [Ty.sz],by rw [hlen];exact IT,CL,by rw [hlen]⟩⟩⟩
  ·refine go_ok hd fun hc=>?_
   have Fp:s.size*1≤140737488355328:=Ak hc
   refine ⟨g,_,_,BA,hI.grown hb,[_],⟨_,_,_,rfl,hlen,grownCap_ge w s.size 0 ET,grownCap_le_maxLen w s.size 0 ET (by unfold maxLen;omega),fun i n hi=>?_⟩,rfl,fun t ht=>by cases ht⟩
   have CB:i<s.size:=by rw [← hlen];exact (List.getElem?_eq_some_iff.1 hi).1
   refine ⟨_,rfl,rfl,[.int .u8 n],rfl,fun j u hj=>?_⟩
   have SB:j=0:=by have:=(List.getElem?_eq_some_iff.1 hj).1;simp at this;exact this
   subst SB
   simp at hj
   subst hj
   simp only [Ty.sz,Nat.mul_one,Nat.add_zero,Au]
   refine ⟨.inr ⟨.inl SC,by rw [Lib.bytesWorld_size];omega,fun id he=>by have:=(hI.bb id _ _ he).2;omega,fun id u he=>by have:=(hI.rb id _ _ he).2.1;omega⟩,?_⟩
   rw [Lib.bytesWorld_cell w ET s i CB]
   unfold Bi at hi
   rw [List.getElem?_map] at hi
   cases hq:s.data.toList[i]? with
   | none=>rw [hq] at hi;cases hi
   | some b=>
    rw [hq] at hi
    simp only [Option.map_some,Option.some.injEq] at hi
    subst hi
    rw [Ax,hq]
    rfl
 ·exact Bp
theorem NR.mono {ok ok':Nat→Nat→Prop} (hm:∀ b o,ok b o→ok' b o) {av:AV} {v:Value} (h:NR ok w av v):NR ok' w av v:=by
 cases av with
 | dat t x g=>obtain ⟨cs,h1,h2⟩:=h;exact ⟨cs,h1.mono (fun b o hk=>⟨hm b o hk,rfl⟩),h2⟩
 | ept t x off=>exact IQ.mono hm h
 | fn f caps=>obtain ⟨vs,h1,h2⟩:=h;exact ⟨vs,h1,h2.imp fun _ _ hp=>hp.mono hm⟩
 | _=>exact h
def Mx (ok:Nat→Nat→Prop) (g:G) (σ:St) (w:World) (a:AV) (v:Value) (ids r:List Nat):Prop:=
 match a with
 | .iov t x h=>∃ id b f gs,ids=id :: r∧v = .pointer (some ⟨b,0,none⟩)∧g.bx id=some (b,f)∧σ.c id=some (.var t x gs)∧h=TN σ gs
 | .ioa e l=>∃ id fz,ids=id :: r∧σ.c id=some (.arr e l fz)∧cn e=false∧N4 g w id e.sz (List.length (α:=e.D) l) v
 | a=>NR ok w a v∧ids=r
def JG (ok:Nat→Nat→Prop) (g:G) (σ:St) (w:World):List AV→List Value→List Nat→Prop
 | [],[],ids=>ids=[]
 | a :: l,v :: vs,ids=>∃ r,Mx ok g σ w a v ids r∧JG ok g σ w l vs r
 | _,_,_=>False
structure Still (B:Bd) (ok0:Nat→Nat→Prop) (g g':G) (σ σ':St) (w:World):Prop where
 ext:Ext (okG B ok0 g w) (okG B ok0 g' w) g g' σ σ' w w
 v:σ'.v = σ.v
 t:σ'.t = σ.t
 r:σ'.r = σ.r
 var:∀ id t x gs,σ.c id=some (.var t x gs)→σ'.c id=some (.var t x gs)
 arr:∀ id e l f,σ.c id=some (.arr e l f)→∃ f',σ'.c id=some (.arr e l f')
theorem Still.refl (B:Bd) (ok0:Nat→Nat→Prop) (g:G) (σ:St) (w:World):Still B ok0 g g σ σ w where
  ext := { cell := fun _ _ hk => ⟨hk, rfl⟩
           box:=fun _ _ hv=>⟨hv,fun he=>⟨he,fun _ f hh=>⟨f,hh⟩,fun _ l fz hc=>⟨l,fz,hc,rfl⟩,fun hn=>hn,fun _ _ cur _ y _ _ hh=>⟨cur,y,hh,rfl⟩⟩⟩
           row:=fun id ver _ hv=>⟨hv,fun he=>⟨he,fun b u hh=>⟨hh,rfl⟩⟩⟩ }
  v:=rfl
  t:=rfl
  r:=rfl
  var:=fun _ _ _ _ h=>h
  arr:=fun _ _ _ f h=>⟨f,h⟩
theorem Still.bx {g g':G} {σ σ':St} (h:Still B ok0 g g' σ σ' w) {id b:Nat} {f:Bool} (hb:g.bx id=some (b,f)):∃ f',g'.bx id=some (b,f'):=
 ((h.ext.box id (σ.v id) (Ah _)).2 (by rw [h.v])).2.1 b f hb
theorem Mx.still {g g':G} {σ σ':St} (h:Still B ok0 g g' σ σ' w) {a:AV} {v:Value} {ids r:List Nat} (ha:Mx (okG B ok0 g w) g σ w a v ids r):Mx (okG B ok0 g' w) g' σ' w a v ids r:=by
 unfold Mx at *
 split at ha
 ·obtain ⟨id,b,f,gs,h1,h2,h3,h4,h6⟩:=ha
  obtain ⟨f',h5⟩:=h.bx h3
  exact ⟨id,b,f',gs,h1,h2,h5,h.var _ _ _ _ h4,by rw [h6];unfold TN;rw [h.r]⟩
 ·obtain ⟨id,fz,h1,h2,Gc,h3⟩:=ha
  obtain ⟨fz',h4⟩:=h.arr _ _ _ _ h2
  obtain ⟨_,k6,_,k8,k9⟩:=(h.ext.box id (σ.v id) (Ah _)).2 (by rw [h.v])
  exact ⟨id,fz',h1,h4,Gc,h3.ext k6 k8 fun b f cur T y=>k9 b f cur T y ⟨_,_,_,h2⟩⟩
 ·exact ⟨ha.1.mono fun b o hk=>(h.ext.cell b o hk).1,ha.2⟩
theorem JG.still {g g':G} {σ σ':St} (h:Still B ok0 g g' σ σ' w):∀ {l:List AV} {vs:List Value} {ids:List Nat},JG (okG B ok0 g w) g σ w l vs ids→JG (okG B ok0 g' w) g' σ' w l vs ids
 | [],[],_,ha=>ha
 | _ :: _,_ :: _,_,⟨r,h1,h2⟩=>⟨r,h1.still h,JG.still h h2⟩
 | [],_ :: _,_,ha=>ha.elim
 | _ :: _,[],_,ha=>ha.elim
theorem Still.trans {g g1 g2:G} {σ σ1 σ2:St} (h:Still B ok0 g g1 σ σ1 w) (k:Still B ok0 g1 g2 σ1 σ2 w):Still B ok0 g g2 σ σ2 w where
  ext := { cell := fun b o hk => ⟨(k.ext.cell b o (h.ext.cell b o hk).1).1, rfl⟩
           box:=fun id ver hv=>by
             obtain ⟨a1,a2⟩:=h.ext.box id ver hv
             obtain ⟨b1,b2⟩:=k.ext.box id ver a1
             refine ⟨b1,fun he=>?_⟩
             obtain ⟨c1,c2,c3,c4,c5⟩:=b2 he
             obtain ⟨d1,d2,d3,d4,d5⟩:=a2 c1
             refine ⟨d1,fun b f hb=>?_,fun e l fz hc=>?_,fun hn=>c4 (d4 hn),fun b f cur T y _ _ hh=>⟨cur,y,hh,rfl⟩⟩
             · obtain ⟨f1,h1⟩:=d2 b f hb;exact c2 b f1 h1
             · obtain ⟨l1,z1,h1,h2⟩:=d3 e l fz hc
               obtain ⟨l2,z2,h3,h4⟩:=c3 e l1 z1 h1
               exact ⟨l2,z2,h3,h4.trans h2⟩
           row:=fun id ver h0 hv=>by
             obtain ⟨a1,a2⟩:=h.ext.row id ver h0 hv
             obtain ⟨b1,b2⟩:=k.ext.row id ver h0 a1
             refine ⟨b1,fun he=>?_⟩
             obtain ⟨c1,c2⟩:=b2 he
             obtain ⟨d1,d2⟩:=a2 c1
             exact ⟨d1,fun b u hb=>⟨(c2 b u (d2 b u hb).1).1,rfl⟩⟩ }
  v:=k.v.trans h.v
  t:=k.t.trans h.t
  r:=k.r.trans h.r
  var:=fun id t x gs hc=>k.var _ _ _ _ (h.var _ _ _ _ hc)
  arr:=fun id e l f hc=>by
    obtain ⟨f1,h1⟩:=h.arr _ _ _ _ hc
    exact k.arr _ _ _ _ h1
theorem Ye {id:Nat} {e:Ty} {l:List e.D} {fz:Bool} (hc:σ.c id=some (.arr e l fz)) (hx:Ext (okG B ok0 g w) (okG B ok0 g' w) g g' σ (σ.CR id (.arr e l true)) w w):
  Still B ok0 g g' σ (σ.CR id (.arr e l true)) w:=
 ⟨hx,rfl,rfl,rfl,fun id' t x gs CP=>by
  simp only [St.CR,BD]
  by_cases hi:id'=id
  ·subst hi;rw [hc] at CP;cases CP
  ·rw [if_neg hi];exact CP,fun id' e' l' f' CP=>by
  simp only [St.CR,BD]
  by_cases hi:id'=id
  ·subst hi;rw [hc] at CP;cases CP;exact ⟨true,by rw [if_pos rfl]⟩
  ·rw [if_neg hi];exact ⟨f',CP⟩⟩
theorem Ypt (hI:Inv B ok0 w0 g σ a w) {T:Nat} {m:Bool} {av av':AV} {v:Value} (h:La E T m σ av=some (av',σ1)) (hr:RepA (okG B ok0 g w) g σ w av v):
  ∃ g',Inv B ok0 w0 g' σ1 a w∧Still B ok0 g g' σ σ1 w∧∀ r,Mx (okG B ok0 g' w) g' σ1 w av' v (Zfg m av++r) r:=by
 unfold La at h
 split at h
 ·cases h
  obtain ⟨cs,h1,h2,_⟩:=hr
  exact ⟨g,hI,Still.refl ..,fun r=>⟨⟨cs,h1,h2⟩,rfl⟩⟩
 ·split at h
  ·cases h
   have hv:v = .slice none 0 0:=hr
   subst hv
   exact ⟨g,hI,Still.refl ..,fun r=>⟨⟨[.slice none 0 0],⟨none,0,0,rfl,rfl,Ah _,Nat.zero_le _,fun i x hi=>by simp at hi⟩,rfl⟩,rfl⟩⟩
  ·cases h
 ·rename_i id ver
  cases m with
  | true=>
   simp only [Aa] at h
   split at h
   ·rename_i L2
    split at h
    ·rename_i e l hc
     cases Gc:cn e with
     | true=>rw [Gc] at h;cases h
     | false=>
     rw [Gc] at h
     cases h
     obtain ⟨e2,l2,Hp,B2,Io⟩:=hr.2 L2
     rw [hc] at B2;cases B2
     exact ⟨g,hI,Still.refl ..,fun r=>⟨id,false,rfl,hc,Gc,Io⟩⟩
    ·cases h
   ·cases h
  | false=>
   simp only [Ac] at h
   split at h
   ·rename_i L2
    have hid:id<pid0:=Nat.le_of_ble_eq_true L2.2
    split at h
    ·rename_i e l fz hc
     cases h
     obtain ⟨e2,l2,Hp,B2,Io⟩:=hr.2 L2.1
     rw [hc] at B2;cases B2
     rcases Io with ⟨hn,Iw,hv⟩ | ⟨b,f,cap,cur,T,ym,hb,hh,Co,hle,CL,hv⟩
     ·obtain ⟨B9,hx⟩:=hI.eL hc hn
      have W6:l=[]:=AI Iw
      subst W6
      exact ⟨g,B9,Ye hc hx,fun r=>⟨⟨[v],by rw [hv];exact ⟨none,0,0,rfl,rfl,Ah _,Nat.zero_le _,fun i x hi=>by simp at hi⟩,rfl⟩,rfl⟩⟩
     ·obtain ⟨g',Ff,B9,hx,BE⟩:=hI.freeze hc hb hid
      obtain ⟨_,cur',TT,y',DS,_,Bu,mo,BO⟩:=B9.Hj (c:= .arr e l true) Ff (by simp [St.CR,BD])
      refine ⟨g',B9,Ye hc hx,fun r=>⟨⟨[v],?_,rfl⟩,rfl⟩⟩
      rw [hv]
      refine ⟨_,_,_,rfl,rfl,hle,CL,fun i x hi=>?_⟩
      obtain ⟨ys,hy,B4⟩:=BO i x hi
      refine ⟨_,rfl,rfl,ys,hy,fun j u hj=>⟨BE _,?_⟩⟩
      simp only [World.cell?,DS,Au]
      exact B4 j u hj
    ·cases h
   ·cases h
 ·rename_i id ver lo n
  split at h
  ·rename_i L2
   have hid:id<pid0:=Nat.le_of_ble_eq_true L2.2
   split at h
   ·rename_i e l fz hc
    cases h
    obtain ⟨e2,l2,Hp,A,cap,B2,MK,Fa,Kf,hA,KH,hp⟩:=hr.2 L2.1
    rw [hc] at B2;cases B2
    cases Db:g.bx id with
    | none=>
     obtain ⟨B9,hx⟩:=hI.eL hc Db
     have Df:n=0:=by
      by_cases h0:n=0
      ·exact h0
      ·obtain ⟨b,f,hb,_⟩:=hA h0;rw [Db] at hb;cases hb
     subst Df
     exact ⟨g,B9,Ye hc hx,fun r=>⟨⟨[v],by rw [hp];exact ⟨_,_,_,rfl,by simp,Fa,Kf,fun i x hi=>by simp at hi⟩,rfl⟩,rfl⟩⟩
    | some q=>
     obtain ⟨b,f⟩:=q
     obtain ⟨g',Ff,B9,hx,BE⟩:=hI.freeze hc Db hid
     obtain ⟨_,cur',TT,y',DS,_,Bu,mo,BO⟩:=B9.Hj (c:= .arr e l true) Ff (by simp [St.CR,BD])
     refine ⟨g',B9,Ye hc hx,fun r=>⟨⟨[v],?_,rfl⟩,rfl⟩⟩
     rw [hp]
     refine ⟨_,_,_,rfl,by rw [Ag,List.length_drop];omega,Fa,Kf,fun i x hi=>?_⟩
     obtain ⟨CB,hi'⟩:=dh hi
     obtain ⟨b2,f2,Da,PN⟩:=hA (by omega)
     rw [Db] at Da;cases Da
     obtain ⟨ys,hy,B4⟩:=BO _ x hi'
     refine ⟨_,PN,rfl,ys,hy,fun j u hj=>⟨BE _,?_⟩⟩
     simp only [World.cell?,DS]
     rw [show lo*e.sz+(i*e.sz+j)=(lo+i)*e.sz+j by rw [Nat.add_mul];omega]
     exact B4 j u hj
   ·cases h
  ·cases h
 ·cases h
  exact ⟨g,hI,Still.refl ..,fun r=>⟨hr,rfl⟩⟩
 ·cases h
  exact ⟨g,hI,Still.refl ..,fun r=>⟨hr,rfl⟩⟩
 ·rename_i id ver
  split at h
  ·rename_i hv
   split at h
   ·rename_i t x gs hc
    cases h
    obtain ⟨b,f,hb,hp⟩:=hr.2 hv
    exact ⟨g,hI,Still.refl ..,fun r=>⟨id,b,f,gs,rfl,hp,hb,hc,rfl⟩⟩
   ·cases h
  ·cases h
 ·cases h
theorem uP:∀ {xs:List Operand} {σ σ1:St} {g:G} {ds:List Dat},Inv B ok0 w0 g σ a w→Mm xs σ = some (ds,σ1)→
  ∃ g',Inv B ok0 w0 g' σ1 a w∧CA (fun (d:Dat) u=>IQ (okG B ok0 g' w) w d.t d.x 0 u) ds (xs.map a.eval)∧∀ b o,okG B ok0 g w b o→okG B ok0 g' w b o
 | [],σ,σ1,g,ds,hI,h=>by cases h;exact ⟨g,hI,trivial,fun _ _ hk=>hk⟩
 | x :: xs,σ,σ1,g,ds,hI,h=>by
  unfold Mm at h
  split at h
  ·rename_i d σ2 h1
   split at h
   ·rename_i ds2 σ3 h2
    cases h
    have Pk:∃ g',Inv B ok0 w0 g' σ2 a w∧IQ (okG B ok0 g' w) w d.t d.x 0 (a.eval x)∧∀ b o,okG B ok0 g w b o→okG B ok0 g' w b o:=by
     have rx:=Ec hI x
     unfold CT at h1
     split at h1
     ·rename_i id ver hx
      rw [hx] at rx
      have frozen:∀ (g':G) (σ':St) (t:Ty) (y:t.D),Inv B ok0 w0 g' σ' a w→σ'.c id=some (.arr t [y] true)→∀ b,g'.bx id=some (b,true)→a.eval x = .pointer (some ⟨b,0,none⟩)→
        (∀ o,okG B ok0 g' w b o)→IQ (okG B ok0 g' w) w t y 0 (a.eval x):=by
       intro g' σ' t y B9 CP b hb hp BE
       obtain ⟨Jv,cur,TT,ym,hh,Il,Bu,CL,BO⟩:=B9.Hj hb CP
       obtain ⟨ys,hr,R8⟩:=BO 0 y rfl
       exact ⟨b,0,ys,hp,hr,fun j u hj=>⟨BE _,by simp only [World.cell?,hh];simpa using R8 j u hj⟩⟩
      split at h1
      ·rename_i L2
       have hid:id<pid0:=Nat.le_of_ble_eq_true L2.2
       obtain ⟨b,f,hb,hp⟩:=rx.2 L2.1
       split at h1
       ·rename_i t y gs hc
        cases h1
        obtain ⟨g',Da,B9,Dt,BE⟩:=hI.capture hc hb hid
        exact ⟨g',B9,frozen g' _ t y B9 (by simp [St.CR,BD]) b Da hp BE,fun b o hk=>(Dt.cell b o hk).1⟩
       ·rename_i t y hc
        cases h1
        have Mv:=hI.Hj hb hc
        have hf:f=true:=Mv.1
        subst hf
        have E2:=hI.bb id b true hb
        have Im:B.n≤b:=by rcases E2.1 with h | h;exact h;exact absurd h.2.1 (by simp)
        refine ⟨g,hI,frozen g _ t y hI hc b hb hp fun o=> .inr ⟨.inl Im,E2.2,fun id' he=>?_,fun id' u he=>?_⟩,fun _ _ hk=>hk⟩
        ·have:=hI.bi _ _ _ _ _ he hb
         subst this
         rw [hb] at he
         cases he
        ·exact absurd hb ((hI.rb id' b u he).2.2 id true)
       ·cases h1
      ·cases h1
     ·rename_i t y hx
      rw [hx] at rx
      cases h1
      exact ⟨g,hI,rx,fun _ _ hk=>hk⟩
     ·cases h1
    obtain ⟨g2,Fh,IA,Sg⟩:=Pk
    obtain ⟨g3,nn,Q4,hm3⟩:=uP Fh h2
    exact ⟨g3,nn,⟨IA.mono hm3,Q4⟩,fun b o hk=>hm3 b o (Sg b o hk)⟩
   ·cases h
  ·cases h
theorem Zxn (hI:Inv B ok0 w0 g σ a w) (hd:∀ d,o.dst=some d→d<a.tmps.size) {f:Nat} {p q:Array Operand} (ho:o.op = .makeFunc (.func f) p q) (hp:p.size=0) {ds:List Dat} (hq:Mm q.toList σ = some (ds,σ1)):
  Dp P B ok0 w0 (.go true (σ1.BJ o.dst (.fn f ds))) o a w:=by
 intro next Q _ hn
 have Nn:p = #[]:=Array.eq_empty_of_size_eq_zero hp
 obtain ⟨g',B9,hr,_⟩:=uP hI hq
 unfold Oper.wp
 have BA:(execOp a.eval o).run P w = .ok (.value (.func (.func f) #[] (q.map a.eval))) w:=by
  unfold execOp;rw [ho,Nn]
  simp [Instr.makeFunc]
 rw [BA]
 refine hn g' _ _ (B9.put ⟨(q.map a.eval).toList,by rw [Array.toArray_toList],by rw [Array.toList_map];exact hr⟩ hd) (ND _ _ _)
theorem sV (hI:Inv B ok0 w0 g σ a w):∀ {xs:List Operand} {ps:List (Nat×Nat)},Pa σ xs=some ps→CA (fun (p:Nat×Nat) u=>Ob g σ p.1 p.2 0 u) ps (xs.map a.eval)
 | [],ps,h=>by cases h;trivial
 | x :: xs,ps,h=>by
  unfold Pa at h
  split at h
  ·rename_i id ver hx
   split at h
   ·rename_i hv
    split at h
    ·rename_i l hl
     cases h
     have rx:=Ec hI x
     rw [hx] at rx
     exact ⟨rx,sV hI hl⟩
    ·cases h
   ·cases h
  ·cases h
theorem Zlq (hI:Inv B ok0 w0 g σ a w) (hd:∀ d,o.dst=some d→d<a.tmps.size) {f:Nat} {p q:Array Operand} (ho:o.op = .makeFunc (.func f) p q) (hp:p.size=0) {ps:List (Nat×Nat)} (hq:Pa σ q.toList=some ps):
  Dp P B ok0 w0 (put o σ (.clo f ps)) o a w:=by
 have Nn:p = #[]:=Array.eq_empty_of_size_eq_zero hp
 refine CY hI hd (v:= .func (.func f) #[] (q.map a.eval)) ?_ ⟨(q.map a.eval).toList,by rw [Array.toArray_toList],by rw [Array.toList_map];exact sV hI hq⟩
 unfold execOp;rw [ho,Nn]
 simp [Instr.makeFunc]
theorem sW {σ σ':St} (h:σ'.t = σ.t):∀ (ms:List Bool) (xs:List Operand),Fm σ' ms xs=Fm σ ms xs
 | _,[]=>by unfold Fm;rfl
 | ms,x :: xs=>by
  have:A8 σ' x=A8 σ x:=by cases x <;> first | rfl | (unfold A8;rw [h])
  unfold Fm
  rw [this,sW h ms.tail xs]
theorem gl:∀ {ms:List Bool} {ps:List (Operand×Nat)} {σ σ1:St} {g:G} {l:List AV},Inv B ok0 w0 g σ a w→Jh E ms ps σ = some (l,σ1)→
  ∃ g',Inv B ok0 w0 g' σ1 a w∧Still B ok0 g g' σ σ1 w∧JG (okG B ok0 g' w) g' σ1 w l (ps.map fun p=>a.eval p.1) (Fm σ ms (ps.map (·.1)))
 | ms,[],σ,σ1,g,l,hI,h=>by
  simp only [Jh,Option.some.injEq,Prod.mk.injEq] at h
  obtain ⟨rfl,rfl⟩:=h
  exact ⟨g,hI,Still.refl ..,by unfold Fm;rfl⟩
 | ms,(x,T) :: ps,σ,σ1,g,l,hI,h=>by
  unfold Jh at h
  split at h
  ·rename_i av σ2 h1
   split at h
   ·rename_i l2 σ3 h2
    cases h
    obtain ⟨g2,Fh,PG,IA⟩:=Ypt hI h1 (Ec hI x)
    obtain ⟨g3,nn,hs3,Q4⟩:=gl Fh h2
    rw [sW PG.t] at Q4
    refine ⟨g3,nn,PG.trans hs3,_,?_,Q4⟩
    have:=(IA (Fm σ ms.tail (ps.map (·.1)))).still hs3
    exact this
   ·cases h
  ·cases h
def Ep (d j n:Nat) (σ:St):St:={ σ with r:=fun i=>if B3 d j≤i∧i<B3 d (j+n) then σ.r i+1 else σ.r i }
def Kn (d:Nat) (σ:St):Nat→List Tag→List Tag
 | _,[]=>[]
 | j,t :: r=>if t.id=0 then t :: Kn d σ j r else ⟨t.off,B3 d j,σ.r (B3 d j)+1,t.sz⟩ :: Kn d σ (j+1) r
def QF (d:Nat) (σ:St):Nat→List Dat→List Dat
 | _,[]=>[]
 | j,x :: r=>⟨x.t,x.x,Kn d σ j x.g⟩ :: QF d σ (j+Ge x.g) r
def R9 (d:Nat) (σ:St) (j:Nat):Con→Con
 | .var t x g=> .var t x (Kn d σ j g)
 | c=>c
def Ks (d:Nat) (σ:St):Nat→List Con→List Con
 | _,[]=>[]
 | j,c :: r=>R9 d σ j c :: Ks d σ (j+QS c) r
theorem YZ:∀ {l:List Nat},Jr l=true→∀ i j x:Nat,l[i]? = some x→l[j]? = some x→x≠0→i=j
 | [],_,i,_,_,h,_,_=>by simp at h
 | y :: l,h,i,j,x,hi,hj,hx=>by
  unfold Jr at h
  simp only [Bool.and_eq_true,Bool.or_eq_true,List.all_eq_true] at h
  have hn:∀ k:Nat,l[k]? = some x→y=x→False:=fun k hk hyx=>by
   rcases h.1 with h0 | h0
   ·have:=Nat.eq_of_beq_eq_true h0;omega
   ·have:=h0 x (List.mem_of_getElem? hk)
    subst hyx
    simp at this
  cases i with
  | zero=>
   cases j with
   | zero=>rfl
   | succ j=>simp at hi;exact (hn j (by simpa using hj) hi).elim
  | succ i=>
   cases j with
   | zero=>simp at hj;exact (hn i (by simpa using hi) hj).elim
   | succ j=>rw [YZ h.2 i j x (by simpa using hi) (by simpa using hj) hx]
theorem Tu (d j n:Nat):B3 d (j+n)=B3 d j+n:=by unfold B3;omega
theorem UX (d j:Nat) (σ:St):Ep d j 0 σ = σ:=by
 unfold Ep
 cases σ
 congr 1
 funext i
 rw [if_neg (by rw [Tu];omega)]
theorem Znq (d j n:Nat) (σ:St):Ep d (j+1) n (σ.Cz (B3 d j))=Ep d j (n+1) σ:=by
 unfold Ep St.Cz
 congr 1
 funext i
 simp only [BD,Tu]
 by_cases h1:i=B3 d j
 ·subst h1
  rw [if_neg (by omega),if_pos rfl,if_pos (by omega)]
 ·rw [if_neg h1]
  by_cases h2:B3 d j+1≤i∧i<B3 d j+1+n
  ·rw [if_pos h2,if_pos (by omega)]
  ·rw [if_neg h2,if_neg (by omega)]
theorem dB (d:Nat) (σ:St) {j0:Nat}:∀ (g:List Tag) (j:Nat),j0<j→Kn d (σ.Cz (B3 d j0)) j g=Kn d σ j g
 | [],_,_=>rfl
 | t :: r,j,h=>by
  unfold Kn
  split
  ·rw [dB d σ r j h]
  ·rw [dB d σ r (j+1) (by omega)]
   congr 2
   simp only [St.Cz,BD]
   rw [if_neg (by unfold B3;omega)]
theorem Tt (d:Nat):∀ (g:List Tag) (j:Nat) (σ:St),Kv d g j σ = (Kn d σ j g,j+Ge g,Ep d j (Ge g) σ)
 | [],j,σ=>by simp [Kv,Kn,Ge,UX]
 | t :: r,j,σ=>by
  unfold Kv Kn Ge
  split
  ·rw [Tt d r j σ]
  ·rw [Tt d r (j+1) (σ.Cz (B3 d j)),dB d σ r (j+1) (by omega),Znq]
   simp only [Prod.mk.injEq,true_and,and_true]
   omega
theorem UN (d j m n:Nat) (σ:St):Ep d (j+m) n (Ep d j m σ)=Ep d j (m+n) σ:=by
 unfold Ep
 congr 1
 funext i
 simp only [Tu]
 by_cases h1:B3 d j≤i∧i<B3 d j+m
 ·rw [if_neg (by omega),if_pos h1,if_pos (by omega)]
 ·rw [if_neg h1]
  by_cases h2:B3 d j+m≤i∧i<B3 d j+(m+n)
  ·rw [if_pos (by omega),if_pos (by omega)]
  ·rw [if_neg (by omega),if_neg (by omega)]
theorem X8 (d:Nat) (σ:St) {j0 n:Nat}:∀ (g:List Tag) (j:Nat),j0+n≤j→Kn d (Ep d j0 n σ) j g=Kn d σ j g
 | [],_,_=>rfl
 | t :: r,j,h=>by
  unfold Kn
  split
  ·rw [X8 d σ r j h]
  ·rw [X8 d σ r (j+1) (by omega)]
   congr 2
   simp only [Ep]
   rw [if_neg (by simp only [Tu];unfold B3;omega)]
theorem pd (d:Nat) (σ:St) {j0 n:Nat}:∀ (ds:List Dat) (j:Nat),j0+n≤j→QF d (Ep d j0 n σ) j ds=QF d σ j ds
 | [],_,_=>rfl
 | x :: r,j,h=>by
  unfold QF
  rw [X8 d σ x.g j h,pd d σ r (j+Ge x.g) (by omega)]
theorem gk (d:Nat):∀ (ds:List Dat) (j:Nat) (σ:St),N7 d ds j σ = (QF d σ j ds,j+JM ds,Ep d j (JM ds) σ)
 | [],j,σ=>by simp [N7,QF,JM,UX]
 | x :: r,j,σ=>by
  unfold N7 QF JM
  simp only [Tt]
  rw [gk d r]
  simp only [UN,pd d σ r (j+Ge x.g) (Ah _),Nat.add_assoc]
theorem Yl (d:Nat) (σ:St) {j0 n:Nat}:∀ (ds:List Con) (j:Nat),j0+n≤j→Ks d (Ep d j0 n σ) j ds=Ks d σ j ds
 | [],_,_=>rfl
 | c :: r,j,h=>by
  unfold Ks
  rw [Yl d σ r _ (by omega)]
  cases c with
  | var t x g=>
   have:R9 d (Ep d j0 n σ) j (.var t x g)=R9 d σ j (.var t x g):=by
    show Con.var t x _=Con.var t x _
    rw [X8 d σ g j h]
   rw [this]
  | _=>rfl
theorem Rw (d:Nat):∀ (ds:List Con) (j:Nat) (σ:St),Kd d ds j σ = (Ks d σ j ds,j+K5 ds,Ep d j (K5 ds) σ)
 | [],j,σ=>by simp [Kd,Ks,K5,UX]
 | .var t x g :: r,j,σ=>by
  unfold Kd Ks K5
  simp only [Tt]
  rw [Rw d r]
  simp only [UN,QS,R9,Yl d σ r (j+Ge g) (Ah _),Nat.add_assoc]
 | .arr e l f :: r,j,σ=>by
  unfold Kd Ks K5
  rw [Rw d r]
  simp only [QS,R9,Au,Nat.add_zero]
 | .val v :: r,j,σ=>by
  unfold Kd Ks K5
  rw [Rw d r]
  simp only [QS,R9,Au,Nat.add_zero]
theorem Ym:∀ (ids:List Nat) (ds:List Con) (σ:St),(GK ids ds σ).t = σ.t∧(GK ids ds σ).v = σ.v∧(GK ids ds σ).r = σ.r
 | [],_,_=>⟨rfl,rfl,rfl⟩
 | _ :: _,[],_=>⟨rfl,rfl,rfl⟩
 | _ :: ids,_ :: ds,σ=>Ym ids ds _
theorem UY {id:Nat}:∀ (ids:List Nat) (ds:List Con) (σ:St),id∉ids→(GK ids ds σ).c id = σ.c id
 | [],_,_,_=>rfl
 | _ :: _,[],_,_=>rfl
 | i :: ids,d :: ds,σ,h=>by
  unfold GK
  rw [UY ids ds _ (fun hm=>h (Az _ hm))]
  simp only [St.CR,BD]
  rw [if_neg (fun he=>h (by rw [he];exact Av ..))]
def XB (ok:Nat→Nat→Prop) (g:G) (r:Nat→Nat) (w:World) (c:Con) (b:Nat):Prop:=
 match c with
 | .var t x gs=>∃ cs T,w.heap[b]? = some (.cells cs.toArray T (0,0))∧RepD ok w t x cs∧VJ b t T cs∧Hg g r w gs cs
 | .arr e l f=>f=false∧∃ cur T y,w.heap[b]? = some (.cells cur T y)∧Mk e y cur.size∧List.length (α:=e.D) l*e.sz≤cur.size∧List.length (α:=e.D) l≤maxLen∧J9 ok w e l cur
 | .val _=>False
def cd (ok:Nat→Nat→Prop) (g:G) (r:Nat→Nat) (w:World) (ds:List Con) (bs:List Nat):Prop:=CA (XB ok g r w) ds bs
theorem XB.con {ok:Nat→Nat→Prop} {τ:St} {c:Con} {b:Nat} (h:XB ok g τ.r w c b):ConOk ok g τ w b false c:=by
 cases c with
 | var t x gs=>exact ⟨rfl,h⟩
 | arr e l f=>obtain ⟨rfl,h⟩:=h;exact ⟨rfl,h⟩
 | val v=>exact h.elim
theorem ec {ok:Nat→Nat→Prop} {r:Nat→Nat} {R:Nat→Nat→Prop} {id:Nat}:∀ {ids bs:List Nat} {ds:List Con} {σ:St},cd ok g r w ds bs→CA R ids bs→ids.Nodup→id∈ids→
  ∃ (d:Con) (b:Nat),R id b∧(GK ids ds σ).c id=some d∧XB ok g r w d b
 | [],_,_,_,_,_,_,h=>by cases h
 | _ :: _,[],_,_,_,h,_,_=>h.elim
 | _ :: _,_ :: _,[],_,h,_,_,_=>h.elim
 | i :: ids,b :: bs,d :: ds,σ,hi,ha,hn,hm=>by
  rcases List.mem_cons.1 hm with rfl | hm
  ·refine ⟨d,b,ha.1,?_,hi.1⟩
   unfold GK
   rw [UY ids ds _ (List.nodup_cons.1 hn).1]
   simp [St.CR,BD]
  ·exact ec (ds:=ds) (σ:=σ.CR i d) hi.2 ha.2 (List.nodup_cons.1 hn).2 hm
theorem YI {id:Nat} {d:Con}:∀ {ids:List Nat} {ds:List Con} {σ:St} {k:Nat},ids.Nodup→ids[k]? = some id→ds[k]? = some d→(GK ids ds σ).c id=some d
 | [],_,_,_,_,h,_=>by simp at h
 | _ :: _,[],_,_,_,_,h=>by simp at h
 | i :: ids,e :: ds,σ,0,hn,h1,h2=>by
  simp only [List.getElem?_cons_zero,Option.some.injEq] at h1 h2
  subst h1 h2
  unfold GK
  rw [UY ids ds _ (List.nodup_cons.1 hn).1]
  simp [St.CR,BD]
 | i :: ids,e :: ds,σ,k+1,hn,h1,h2=>by
  simp only [List.getElem?_cons_succ] at h1 h2
  exact YI (σ:=σ.CR i e) (List.nodup_cons.1 hn).2 h1 h2
def M9 (σ:St) (ids:List Nat) (ds:List Con):Prop:=∀ (k id:Nat) (e:Ty) (l:List e.D) (fz:Bool),ids[k]? = some id→σ.c id=some (.arr e l fz)→∃ l',ds[k]? = some (.arr e l' false)∧List.length (α:=e.D) l'=List.length (α:=e.D) l
theorem CA.right {α β:Type} {p:α→β→Prop}:∀ {l:List α} {m:List β} {b:β},CA p l m→b∈m→∃ a,a∈l∧p a b
 | a :: _,_ :: _,_,h,hm=>by
  rcases List.mem_cons.1 hm with rfl | hm
  ·exact ⟨a,Av ..,h.1⟩
  ·obtain ⟨x,h1,h2⟩:=CA.right h.2 hm;exact ⟨x,Az _ h1,h2⟩
 | [],[],_,_,hm=>by cases hm
 | [],_ :: _,_,h,_=>h.elim
 | _ :: _,[],_,h,_=>h.elim
theorem CA.left {α β:Type} {p:α→β→Prop}:∀ {l:List α} {m:List β} {a:α},CA p l m→a∈l→∃ b,b∈m∧p a b
 | _ :: _,b :: _,_,h,hm=>by
  rcases List.mem_cons.1 hm with rfl | hm
  ·exact ⟨b,Av ..,h.1⟩
  ·obtain ⟨x,h1,h2⟩:=CA.left h.2 hm;exact ⟨x,Az _ h1,h2⟩
 | [],_,_,_,hm=>by cases hm
 | _ :: _,[],_,h,_=>h.elim
theorem Inv.Zjf (hI:Inv B ok0 w0 g σ a w) {b o id:Nat} (hk:okG B ok0 g w b o):g.bx id≠some (b,false):=by
 intro he
 rcases hk with hk | ⟨_,_,h3,_⟩
 ·obtain ⟨h1,h2⟩:=hI.h0 b o hk
  rcases (hI.bb id b false he).1 with h | h
  ·omega
  ·exact h2.1 h.1
 ·exact h3 id he
theorem Inv.ln (hI:Inv B ok0 w0 g σ a w) {b o id u:Nat} (hk:okG B ok0 g w b o) (hr:g.rw id=some (b,u)):o<u:=by
 rcases hk with hk | ⟨_,_,_,h4⟩
 ·obtain ⟨h1,_,h3⟩:=hI.h0 b o hk
  rcases (hI.rb id b u hr).1 with h | ⟨u0,h,hle⟩
  ·omega
  ·have:=h3 u0 h;omega
 ·exact h4 id u hr
theorem dY:∀ (hs:List Nat) (σ:St),(DW hs σ).t = σ.t∧(DW hs σ).v = σ.v∧(DW hs σ).c = σ.c∧∀ i,(i∉hs→(DW hs σ).r i = σ.r i)∧(i∈hs→σ.r i<(DW hs σ).r i)
 | [],σ=>⟨rfl,rfl,rfl,fun i=>⟨fun _=>rfl,fun h=>by cases h⟩⟩
 | j :: hs,σ=>by
  obtain ⟨h1,h2,h3,h4⟩:=dY hs (σ.Cz j)
  refine ⟨h1,h2,h3,fun i=>⟨fun hn=>?_,fun hm=>?_⟩⟩
  ·show (DW hs (σ.Cz j)).r i=_
   rw [(h4 i).1 fun h=>hn (Az _ h)]
   simp only [St.Cz,BD]
   rw [if_neg fun e=>hn (by rw [e];exact Av ..)]
  ·show _<(DW hs (σ.Cz j)).r i
   by_cases hi:i∈hs
   ·have h5:=(h4 i).2 hi
    have h6:σ.r i≤(σ.Cz j).r i:=by
     simp only [St.Cz,BD]
     split
     ·rename_i e;rw [e];omega
     ·exact Ah _
    omega
   ·rw [(h4 i).1 hi]
    rcases List.mem_cons.1 hm with rfl | hm
    ·simp [St.Cz,BD]
    ·exact absurd hm hi
def Handed (g:G) (w:World) (hs:List Nat) (rws:List (Option (Nat×Nat))):Prop:=CA (fun i q=>∀ b u,q=some (b,u)→i≠0∧g.rw i=some (b,u)∧∃ cur T,w.heap[b]? = some (.cells cur T (0,0))) hs rws
theorem YJ (hI:Inv B ok0 w0 g σ a w) {bs ids:List Nat} {rws:List (Option (Nat×Nat))} {hs:List Nat} (hb:BelowX ⟨w.heap.size,bs,rws⟩ w w') {ρ:Nat→Option (Nat×Nat)}
    (h1:∀ j b u,ρ j=some (b,u)→(w.heap.size≤b∨∃ u0,some (b,u0)∈rws∧u0≤u)∧b<w'.heap.size)
    (h2:∀ j k b u u',ρ j=some (b,u)→ρ k=some (b,u')→j=k) (Hk:CA (fun id b=>g.bx id=some (b,false)) ids bs) (Hc:ids.Nodup) (EG:Handed g w hs rws) {ds:List Con} (KA:M9 σ ids ds) (d N:Nat)
    (Iy:∀ g':G,(∀ j,j<N→g'.rw (B3 d j) = ρ j)→(∀ b o,DE (okG B ok0 g w) w w' rws ρ b o→okG B ok0 g' w' b o)→cd (okG B ok0 g' w') g' (Ep d 0 N (DW hs σ)).r w' ds bs):
    ∃ g',Inv B ok0 w0 g' (GK ids ds (Ep d 0 N (DW hs σ))) a w'∧(∀ b o,DE (okG B ok0 g w) w w' rws ρ b o→okG B ok0 g' w' b o)∧(∀ j,j<N→g'.rw (B3 d j) = ρ j)∧g'.bx=g.bx:=by
  obtain ⟨st,sv,sr⟩:=Ym ids ds (Ep d 0 N (DW hs σ))
  obtain ⟨bt,bv,bc,br⟩:=dY hs σ
  have SC:B.n≤w.heap.size:=by have:=hI.below.size;have:=hI.hB;omega
  have Bu:=hb.size
  have RU:∀ b u,some (b,u)∈rws→∃ i,i∈hs∧g.rw i=some (b,u):=fun b u hm=>by
    obtain ⟨i,h3,h4⟩:=EG.right hm
    exact ⟨i,h3,(h4 b u rfl).2.1⟩
  have bp:∀ k,k<w.heap.size→k∉bs→(∀ u,some (k,u)∉rws)→w'.heap[k]? = w.heap[k]?:=hb.block
  have Yg1:∀ b o,okG B ok0 g w b o→b∉bs:=fun b o hk hm=>by
    obtain ⟨id,_,he⟩:=Hk.right hm
    exact hI.Zjf hk he
  have CB:∀ {id b f},g.bx id=some (b,f)→b∈bs→id∈ids:=fun he hm=>by
    obtain ⟨id',h3,h4⟩:=Hk.right hm
    exact hI.bi _ _ _ _ _ he h4 ▸ h3
  have cN:∀ {id b f},g.bx id=some (b,f)→∀ u,some (b,u)∉rws:=fun he u hm=>by
    obtain ⟨i,_,h4⟩:=RU _ u hm
    exact (hI.rb i _ u h4).2.2 _ _ he
  have C8:∀ b o,okG B ok0 g w b o→w'.cell? ⟨b,o,none⟩=w.cell? ⟨b,o,none⟩:=fun b o hk=>by
    by_cases hm:∃ u,some (b,u)∈rws
    · obtain ⟨u,hm⟩:=hm
      obtain ⟨i,_,h4⟩:=RU b u hm
      have ho:=hI.ln hk h4
      have AO:=(hI.rb i b u h4).2.1
      obtain ⟨_,_,h5⟩:=EG.right hm
      obtain ⟨_,_,cur,T,MF⟩:=h5 b u rfl
      obtain ⟨cur',z,k1,k2,k3⟩:=hb.rowc b u cur T (0,0) hm AO MF
      simp only [World.cell?,MF,k1]
      simp only [Option.isSome_none,Bool.false_eq_true,if_false]
      exact k3 o ho
    · unfold World.cell?
      simp only [bp b (hI.okB hk) (Yg1 b o hk) fun u hu=>hm ⟨u,hu⟩]
  let ρ':Nat→Option (Nat×Nat):=fun i=>if B3 d 0≤i∧i<B3 d (0+N) then ρ (i-B3 d 0) else if i∈hs then none else g.rw i
  have hρ':∀ i b u,ρ' i=some (b,u)→(ρ (i-B3 d 0)=some (b,u)∧B3 d 0≤i∧i<B3 d (0+N))∨(g.rw i=some (b,u)∧i∉hs):=by
    intro i b u hi
    simp only [ρ'] at hi
    split at hi
    · rename_i hq;exact .inl ⟨hi,hq⟩
    · split at hi
      · cases hi
      · rename_i hq;exact .inr ⟨hi,hq⟩
  have Xa:∀ i b u u0,g.rw i=some (b,u)→i∉hs→some (b,u0)∉rws:=fun i b u u0 hi hn hm=>by
    obtain ⟨i',h3,h4⟩:=RU b u0 hm
    exact hn (hI.ri _ _ _ _ _ hi h4 ▸ h3)
  have QP:∀ b o,DE (okG B ok0 g w) w w' rws ρ b o→okG B ok0 ⟨g.bx,ρ'⟩ w' b o:=by
    intro b o hk
    rcases hk with hk | ⟨q1,q2,q3⟩
    · have cJ:=hk
      rcases hk with hk | ⟨q1,q2,q3,q4⟩
      · exact .inl hk
      · refine .inr ⟨q1,by omega,q3,fun id u he=>?_⟩
        rcases hρ' id b u he with ⟨h,_⟩ | h
        · rcases (h1 _ _ _ h).1 with h5 | ⟨u0,h5,h6⟩
          · omega
          · obtain ⟨i,_,h7⟩:=RU b u0 h5
            have:=hI.ln cJ h7
            omega
        · exact q4 id u h.1
    · refine .inr ⟨?_,q2,fun id he=>?_,fun id u he=>?_⟩
      · rcases q1 with q1 | ⟨u,q1⟩
        · exact .inl (by omega)
        · obtain ⟨i,_,h4⟩:=RU b u q1
          rcases (hI.rb i b u h4).1 with h5 | ⟨u0,h5,_⟩
          · exact .inl h5
          · exact .inr ⟨u0,h5⟩
      · rcases q1 with q1 | ⟨u,q1⟩
        · have:=(hI.bb id b false he).2;omega
        · exact cN he u q1
      · rcases hρ' id b u he with ⟨h,_⟩ | ⟨h,hn⟩
        · exact q3 _ u h
        · rcases q1 with q1 | ⟨u0,q1⟩
          · have:=(hI.rb id b u h).2.1;omega
          · exact absurd q1 (Xa id b u u0 h hn)
  have Q4:∀ id,id≠0→(Ep d 0 N (DW hs σ)).r id = σ.r id→ρ' id=g.rw id:=by
    intro id h0 he
    simp only [Ep] at he
    simp only [ρ']
    split at he
    · rename_i hq
      by_cases hm:id∈hs
      · have:=(br id).2 hm;omega
      · rw [(br id).1 hm] at he;omega
    · rename_i hq
      rw [if_neg hq]
      by_cases hm:id∈hs
      · have:=(br id).2 hm;omega
      · rw [if_neg hm]
  have Zsh:∀ id,σ.r id≤(Ep d 0 N (DW hs σ)).r id:=by
    intro id
    have:σ.r id≤(DW hs σ).r id:=by
      by_cases hm:id∈hs
      · have:=(br id).2 hm;omega
      · rw [(br id).1 hm];exact Ah _
    simp only [Ep]
    split <;> omega
  have mS:∀ id b u,id≠0→(Ep d 0 N (DW hs σ)).r id = σ.r id→g.rw id=some (b,u)→∀ u0,some (b,u0)∉rws:=by
    intro id b u h0 he hh u0
    refine Xa id b u u0 hh fun hm=>?_
    have:=(br id).2 hm
    simp only [Ep] at he
    split at he <;> omega
  have Jn:∀ j,j<N→ρ' (B3 d j) = ρ j:=fun j hj=>by
    simp only [ρ']
    rw [if_pos (by simp only [Tu];unfold B3;omega)]
    congr 1
    unfold B3;omega
  have EP:=Iy ⟨g.bx,ρ'⟩ Jn QP
  have hx:Ext (okG B ok0 g w) (okG B ok0 ⟨g.bx,ρ'⟩ w') g ⟨g.bx,ρ'⟩ σ (GK ids ds (Ep d 0 N (DW hs σ))) w w':=
    { cell := fun b o hk => ⟨QP b o (.inl hk), C8 b o hk⟩
      box:=fun id ver hv=>by
        rw [sv]
        show ver≤(DW hs σ).v id∧((DW hs σ).v id=ver→_)
        rw [bv]
        refine ⟨hv,fun he=>⟨he,fun b f hh=>⟨f,hh⟩,fun e l fz hc=>?_,fun hn=>hn,fun b f cur T ym hc CD hh=>?_⟩⟩
        · by_cases hm:id∈ids
          · obtain ⟨k,hk⟩:=List.mem_iff_getElem?.1 hm
            obtain ⟨l',h1,h2⟩:=KA k id e l fz hk hc
            exact ⟨l',false,YI Hc hk h1,h2⟩
          · refine ⟨l,fz,?_,rfl⟩
            rw [UY ids ds _ hm]
            show (DW hs σ).c id=_
            rw [bc]
            exact hc
        · by_cases hm:b∈bs
          · obtain ⟨e,l,fz,hc⟩:=hc
            have cm:=CB CD hm
            obtain ⟨k,hk⟩:=List.mem_iff_getElem?.1 cm
            obtain ⟨l',h1,_⟩:=KA k id e l fz hk hc
            obtain ⟨q,b',Ff,CP,hq⟩:=ec (σ:=Ep d 0 N (DW hs σ)) EP Hk Hc cm
            rw [YI Hc hk h1] at CP
            cases CP
            rw [CD] at Ff
            cases Ff
            obtain ⟨_,QT,T2,y2,q1,_⟩:=hq
            obtain ⟨Yq5,z,q2,q3⟩:=hb.ioc b cur T _ hm (hI.bb id b _ CD).2 hh
            rw [q1] at q2
            cases q2
            exact ⟨_,_,q1,q3⟩
          · exact ⟨cur,ym,(bp b (hI.bb id b f CD).2 hm (cN CD)).trans hh,rfl⟩
      row:=fun id ver h0 hv=>by
        rw [sr]
        refine ⟨Nat.le_trans hv (Zsh id),fun he=>?_⟩
        have Uv:(Ep d 0 N (DW hs σ)).r id = σ.r id:=by have:=Zsh id;omega
        refine ⟨by omega,fun b u hh=>⟨?_,bp b (hI.rb id b u hh).2.1 (fun hm=>?_) (mS id b u h0 Uv hh)⟩⟩
        · show ρ' id=_
          rw [Q4 id h0 Uv]
          exact hh
        · obtain ⟨id',_,h4⟩:=Hk.right hm
          exact (hI.rb id b u hh).2.2 id' false h4 }
  refine ⟨⟨g.bx,ρ'⟩,?_,QP,Jn,rfl⟩
  exact {
      below:=hI.below.Zf6 hb SC (fun x hm=>by
        obtain ⟨id,_,h4⟩:=Hk.right hm
        rcases (hI.bb id x false h4).1 with h | h
        · exact ⟨.inl h,fun u AO=>by omega⟩
        · exact ⟨.inr h.1,fun u _ hq=>(hI.hR x u hq).2.1 h.1⟩) (fun x u hm=>by
        obtain ⟨i,_,h4⟩:=RU x u hm
        rcases (hI.rb i x u h4).1 with h | ⟨u0,h,hle⟩
        · exact ⟨.inl h,fun u0 AO=>by omega⟩
        · exact ⟨.inr ⟨u0,h⟩,fun u1 _ hq=>by rw [(hI.hR x u0 h).2.2 u1 hq];exact hle⟩)
      hB:=hI.hB,h0:=hI.h0,hR:=hI.hR,defers:=hI.defers,lay:=hI.lay,tm:=hI.tm,nm:=hI.nm
      bb:=fun id b f CD=>⟨(hI.bb id b f CD).1,Nat.lt_of_lt_of_le (hI.bb id b f CD).2 Bu⟩
      bi:=hI.bi
      rb:=fun id b u hh=>by
        rcases hρ' id b u hh with ⟨h,_⟩ | ⟨h,_⟩
        · obtain ⟨q1,q2⟩:=h1 _ _ _ h
          rcases q1 with q1 | ⟨u0,q1,q3⟩
          · exact ⟨.inl (by omega),q2,fun id' f he=>by have:=(hI.bb id' b f he).2;omega⟩
          · obtain ⟨i,_,h4⟩:=RU b u0 q1
            refine ⟨?_,q2,fun id' f he=>cN he u0 q1⟩
            rcases (hI.rb i b u0 h4).1 with h5 | ⟨u1,h5,h6⟩
            · exact .inl h5
            · exact .inr ⟨u1,h5,by omega⟩
        · obtain ⟨q1,q2,q3⟩:=hI.rb id b u h
          exact ⟨q1,by omega,q3⟩
      ri:=fun id id' b u u' e1 e2=>by
        have Zkf:∀ i j u u',ρ j=some (b,u)→g.rw i=some (b,u')→i∉hs→False:=fun i j u u' k1 k2 k3=>by
          rcases (h1 _ _ _ k1).1 with h5 | ⟨u0,h5,_⟩
          · have:=(hI.rb _ _ _ k2).2.1;omega
          · exact Xa i b u' u0 k2 k3 h5
        rcases hρ' id b u e1 with ⟨k1,k2⟩ | ⟨k1,k2⟩
        · rcases hρ' id' b u' e2 with ⟨k3,k4⟩ | ⟨k3,k4⟩
          · have:=h2 _ _ _ _ _ k1 k3;omega
          · exact (Zkf _ _ _ _ k1 k3 k4).elim
        · rcases hρ' id' b u' e2 with ⟨k3,k4⟩ | ⟨k3,k4⟩
          · exact (Zkf _ _ _ _ k3 k1 k2).elim
          · exact hI.ri _ _ _ _ _ k1 k3
      con:=fun id c hc=>by
        by_cases hm:id∈ids
        · obtain ⟨q,b,Ff,CP,hq⟩:=ec (σ:=Ep d 0 N (DW hs σ)) EP Hk Hc hm
          rw [CP] at hc;cases hc
          exact .inr ⟨b,false,Ff,XB.con (τ:=GK ids ds (Ep d 0 N (DW hs σ))) (by rw [sr];exact hq)⟩
        · rw [UY ids ds _ hm] at hc
          have B2:(DW hs σ).c id=some c:=hc
          rw [bc] at B2
          rcases hI.con id c B2 with hn | ⟨b,f,CD,hk⟩
          · exact .inl hn
          exact .inr ⟨b,f,CD,hk.ext hx (bp b (hI.bb id b f CD).2 (fun mT=>hm (CB CD mT)) (cN CD))⟩
      slots:=fun t=>by
        rw [st]
        show RepA _ _ _ _ ((DW hs σ).t t) _
        rw [bt]
        exact (hI.slots t).ext hx }
theorem UZ {ρ:Nat→Option (Nat×Nat)} {cs:List Value} {d N:Nat} (ER:∀ j,j<N→g'.rw (B3 d j) = ρ j):∀ (g:List Tag) (j:Nat),j+Ge g≤N→OX ρ w' cs j g→
  Hg g' (Ep d 0 N σ).r w' (Kn d σ j g) cs
 | [],j,_,_=>fun t ht=>by cases ht
 | t :: r,j,hN,h=>by
  intro τ hτ
  unfold OX at h
  unfold Kn at hτ
  unfold Ge at hN
  split at h
  ·rename_i h0
   rw [if_pos h0] at hτ hN
   rcases List.mem_cons.1 hτ with rfl | hτ
   ·exact ⟨fun _=>h.1,fun hn=>absurd h0 hn⟩
   ·exact UZ ER r j hN h.2 τ hτ
  ·rename_i h0
   rw [if_neg h0] at hτ hN
   rcases List.mem_cons.1 hτ with rfl | hτ
   ·have CB:B3 d 0≤B3 d j∧B3 d j<B3 d (0+N):=by simp only [Tu];unfold B3;omega
    refine ⟨fun hz=>absurd hz (TF d j),fun _=>⟨by simp only [Ep,if_pos CB];omega,fun _=>?_⟩⟩
    rcases h.1 with hv | ⟨b,n,cap,cur,T,hv,hr,rest⟩
    ·exact .inl hv
    ·exact .inr ⟨b,n,cap,cur,T,hv,by rw [ER j (by omega)];exact hr,rest⟩
   ·exact UZ ER r (j+1) (by omega) h.2 τ hτ
theorem J9.mono {ok ok':Nat→Nat→Prop} (hm:∀ b o,ok b o→ok' b o) {e:Ty} {l:List e.D} {cur:Array Value} (h:J9 ok w e l cur):J9 ok' w e l cur:=fun i x hi=>by
 obtain ⟨ys,h1,h2⟩:=h i x hi
 exact ⟨ys,h1.mono fun b o hk=>⟨hm b o hk,rfl⟩,h2⟩
theorem lp {ok ok':Nat→Nat→Prop} {ρ:Nat→Option (Nat×Nat)} {d N:Nat} {τ:St} (ER:∀ j,j<N→g'.rw (B3 d j) = ρ j) (BE:∀ b o,ok b o→ok' b o):∀ (ds:List Con) (bs:List Nat) (j:Nat),j+K5 ds≤N→Ld ok ρ w' j ds bs→
  cd ok' g' (Ep d 0 N τ).r w' (Ks d τ j ds) bs
 | [],[],_,_,_=>trivial
 | x :: ds,b :: bs,j,hN,⟨h,h5⟩=>by
  unfold K5 at hN
  refine ⟨?_,lp ER BE ds bs _ (by omega) h5⟩
  cases x with
  | var t x g=>
   obtain ⟨cs,T,h1,h2,h3,h4⟩:=h
   exact ⟨cs,T,h1,h2.mono fun b o hk=>⟨BE b o hk,rfl⟩,h3,UZ ER g j (by have:QS (Con.var t x g)=Ge g:=rfl;omega) h4⟩
  | arr e l f=>
   obtain ⟨hf,cur,T,y,h1,hy,h2,h3,h4⟩:=h
   exact ⟨hf,cur,T,y,h1,hy,h2,h3,h4.mono BE⟩
  | val v=>exact h.elim
 | [],_ :: _,_,_,h=>h.elim
 | _ :: _,[],_,_,h=>h.elim
theorem gm {ok ok':Nat→Nat→Prop} {ρ:Nat→Option (Nat×Nat)} {r:Nat→Nat} (BE:∀ b o,ok b o→ok' b o):∀ (ds:List Con) (bs:List Nat) (j:Nat),Ld ok ρ w' j ds bs→cd ok' g' r w' (ds.map RO) bs
 | [],[],_,_=>trivial
 | x :: ds,b :: bs,j,⟨h,h5⟩=>by
  refine ⟨?_,gm BE ds bs _ h5⟩
  cases x with
  | var t x g=>
   obtain ⟨cs,T,h1,h2,h3,_⟩:=h
   exact ⟨cs,T,h1,h2.mono fun b o hk=>⟨BE b o hk,rfl⟩,h3,fun _ h=>by cases h⟩
  | arr e l f=>
   obtain ⟨hf,cur,T,y,h1,hy,h2,h3,h4⟩:=h
   exact ⟨hf,cur,T,y,h1,hy,h2,h3,h4.mono BE⟩
  | val v=>exact h.elim
 | [],_ :: _,_,h=>h.elim
 | _ :: _,[],_,h=>h.elim
theorem sX {F:Nat→Con→Con} (hF:∀ j e l z,F j (.arr e l z) = .arr e l z):∀ {ds:List Con} {k:Nat} {e:Ty} {l:List e.D} {z:Bool} (G:Nat→List Con→List Con) (j:Nat),(∀ j c r,∃ j',G j (c :: r)=F j c :: G j' r)→ds[k]? = some (.arr e l z)→(G j ds)[k]? = some (.arr e l z)
 | [],_,_,_,_,_,_,_,h=>by simp at h
 | c :: ds,0,e,l,z,G,j,hG,h=>by
  simp only [List.getElem?_cons_zero,Option.some.injEq] at h
  subst h
  obtain ⟨j',e'⟩:=hG j (.arr e l z) ds
  rw [e',hF]
  rfl
 | c :: ds,k+1,e,l,z,G,j,hG,h=>by
  simp only [List.getElem?_cons_succ] at h
  obtain ⟨j',e'⟩:=hG j c ds
  rw [e',List.getElem?_cons_succ]
  exact sX hF G j' hG h
theorem M9.Ks {ids:List Nat} {ds:List Con} (h:M9 σ ids ds) (d:Nat) (τ:St) (j:Nat):M9 σ ids (Ks d τ j ds):=fun k id e l fz h1 h2=>by
 obtain ⟨l',h3,h4⟩:=h k id e l fz h1 h2
 exact ⟨l',sX (F:=fun j c=>R9 d τ j c) (fun _ _ _ _=>rfl) (Go.AM.Ks d τ) j (fun j c r=>⟨j+QS c,rfl⟩) h3,h4⟩
theorem M9.bare {ids:List Nat} {ds:List Con} (h:M9 σ ids ds):M9 σ ids (ds.map RO):=fun k id e l fz h1 h2=>by
 obtain ⟨l',h3,h4⟩:=h k id e l fz h1 h2
 exact ⟨l',by rw [List.getElem?_map,h3];rfl,h4⟩
theorem fG:∀ l m:List AV,D5 l m=l++m
 | [],_=>rfl
 | a :: l,m=>by unfold D5;rw [fG l m];rfl
theorem CA.append {α β:Type} {p:α→β→Prop}:∀ {l l':List α} {m m':List β},CA p l m→CA p l' m'→CA p (l++l') (m++m')
 | [],_,[],_,_,h=>h
 | _ :: _,_,_ :: _,_,h,h'=>⟨h.1,CA.append h.2 h'⟩
 | [],_,_ :: _,_,h,_=>h.elim
 | _ :: _,_,[],_,h,_=>h.elim
theorem UI:∀ {ids:List Nat},J3 σ ids=true→ids.Nodup∧∀ id∈ids,(∃ t x gs,σ.c id=some (.var t x gs))∨∃ e l,σ.c id=some (.arr e l false)
 | [],_=>⟨List.nodup_nil,fun _ h=>by cases h⟩
 | id :: r,h=>by
  unfold J3 at h
  rw [Bool.and_eq_true,Bool.and_eq_true] at h
  obtain ⟨⟨h1,h2⟩,h3⟩:=h
  obtain ⟨k1,k2⟩:=UI h3
  refine ⟨List.nodup_cons.2 ⟨fun hm=>?_,k1⟩,fun i hi=>?_⟩
  ·have:=List.all_eq_true.1 h2 id hm
   simp at this
  ·rcases List.mem_cons.1 hi with rfl | hi
   ·split at h1
    ·rename_i t x gs hc;exact .inl ⟨t,x,gs,hc⟩
    ·rename_i e l f hc
     cases f with
     | false=>exact .inr ⟨e,l,hc⟩
     | true=>cases h1
    ·cases h1
   ·exact k2 i hi
theorem CA.app {α β:Type} {p:α→β→Prop} {l l':List α} {m m':List β} (h:CA p l m) (h':CA p l' m'):CA p (l++l') (m++m'):=CA.append h h'
theorem CA.cf {α β:Type} {p:α→β→Prop}:∀ {l:List α} {m:List β} {i:Nat} {b:β},CA p l m→m[i]? = some b→∃ a,l[i]? = some a∧p a b
 | a :: _,b :: _,0,_,h,hi=>by simp at hi;subst hi;exact ⟨a,rfl,h.1⟩
 | _ :: _,_ :: _,i+1,_,h,hi=>by
  simp only [List.getElem?_cons_succ] at hi ⊢
  exact CA.cf h.2 hi
 | [],[],i,_,_,hi=>by simp at hi
 | [],_ :: _,_,_,h,_=>h.elim
 | _ :: _,[],_,_,h,_=>h.elim
theorem uQ {gs:List Tag} {cs:List Value} (ht:Hg g σ.r w gs cs):∀ (h:List Tag),(∀ τ∈h,τ∈gs∧(τ.id=0∨σ.r τ.id = τ.ver))→∀ r,∃ Q5,TE w cs h (Q5++r) r∧Handed g w (h.map (·.id)) Q5
 | [],_,r=>⟨[],rfl,trivial⟩
 | τ :: h,hm,r=>by
  obtain ⟨Q5,h1,h2⟩:=uQ ht h (fun τ' hτ=>hm τ' (Az _ hτ)) r
  obtain ⟨hg,hv⟩:=hm τ (Av ..)
  obtain ⟨k1,k2⟩:=ht τ hg
  by_cases h0:τ.id=0
  ·exact ⟨none :: Q5,⟨none,_,rfl,h1,k1 h0⟩,(fun b u he=>by cases he),h2⟩
  ·rcases hv with hv | hv
   ·exact absurd hv h0
   ·rcases (k2 h0).2 hv with k3 | ⟨b,n,cap,cur,T,k3,k4,k5,k6,k7,k8⟩
    ·exact ⟨none :: Q5,⟨none,_,rfl,h1,k3⟩,(fun b u he=>by cases he),h2⟩
    ·exact ⟨some (b,n*N6 τ.sz) :: Q5,⟨_,_,rfl,h1,n,cap,cur,T,k3,rfl,k5,k6,k7,k8⟩,(fun b' u he=>by cases he;exact ⟨h0,k4,cur,T,k5⟩),h2⟩
theorem Zsu {gs:List Tag}:∀ τ∈TN σ gs,τ∈gs∧(τ.id=0∨σ.r τ.id = τ.ver):=fun τ h=>by
 unfold TN at h
 obtain ⟨h1,h2⟩:=List.mem_filter.1 h
 rw [Bool.or_eq_true] at h2
 exact ⟨h1,h2.imp Nat.eq_of_beq_eq_true Nat.eq_of_beq_eq_true⟩
theorem bq (hI:Inv B ok0 w0 g σ a w):∀ {l:List AV} {vs:List Value} {ids:List Nat},JG (okG B ok0 g w) g σ w l vs ids→M6 l=true→(∀ id∈ids,(∃ t x gs,σ.c id=some (.var t x gs))∨∃ e l,σ.c id=some (.arr e l false))→
  ∃ bs rws,KV (okG B ok0 g w) w l vs bs rws∧CA (fun id b=>g.bx id=some (b,false)) ids bs∧Handed g w (FD l) rws
 | [],[],_,h,_,_=>by cases h;exact ⟨[],[],⟨rfl,rfl⟩,trivial,trivial⟩
 | av :: l,v :: vs,ids,⟨r,h1,h2⟩,Pz,L1=>by
  by_cases hq:∃ t x h,av = .iov t x h
  ·obtain ⟨t,x,h,rfl⟩:=hq
   obtain ⟨id,b,f,gs,rfl,hv,hb,hc,hh⟩:=h1
   obtain ⟨bs,rws,k1,k2,k3⟩:=bq hI h2 Pz fun id' hm=>L1 id' (Az _ hm)
   obtain ⟨rfl,cs,T,hw,hr,Oo,Su⟩:=hI.Hj hb hc
   obtain ⟨Q5,q1,q2⟩:=uQ Su h (by rw [hh];exact Zsu) rws
   exact ⟨b :: bs,Q5++rws,⟨bs,rws,⟨b,rfl,hv,cs,T,hw,hr,Oo,q1⟩,k1⟩,⟨hb,k2⟩,CA.app q2 k3⟩
  by_cases PM:∃ e l,av = .ioa e l
  ·obtain ⟨e,x,rfl⟩:=PM
   obtain ⟨id,fz,rfl,hc,Gc,Io⟩:=h1
   have mq:(decide (0<List.length (α:=e.D) x) && M6 l)=true:=Pz
   rw [Bool.and_eq_true] at mq
   obtain ⟨bs,rws,k1,k2,k3⟩:=bq hI h2 mq.2 fun id' hm=>L1 id' (Az _ hm)
   have HH:0<List.length (α:=e.D) x:=Ak mq.1
   have hfz:fz=false:=by
    rcases L1 id (Av ..) with ⟨t,y,gs,h⟩ | ⟨e',l',h⟩
    ·rw [hc] at h;cases h
    ·rw [hc] at h;cases h;rfl
   subst hfz
   rcases Io with ⟨_,h0,_⟩ | ⟨b,f,cap,cur,T,ym,hb,hh,Co,hle,CL,hv⟩
   ·omega
   ·obtain ⟨hf,cur',T',y',DS,Il,_,_,BO⟩:=hI.Hj hb hc
    subst hf
    rw [hh] at DS
    cases DS
    have MB:ym=(0,0):=by
     rcases Il with h | ⟨h,_⟩
     ·exact h
     ·rw [Gc] at h;cases h
    subst MB
    exact ⟨b :: bs,rws,⟨bs,rws,⟨b,cap,_,_,rfl,rfl,hv,hh,Co,hle,CL,HH,BO⟩,k1⟩,⟨hb,k2⟩,k3⟩
  have e1:∀ i r,Mx (okG B ok0 g w) g σ w av v i r=(NR (okG B ok0 g w) w av v∧i=r):=by
   intro i r
   unfold Mx
   split
   ·exact absurd ⟨_,_,_,rfl⟩ hq
   ·exact absurd ⟨_,_,rfl⟩ PM
   ·rfl
  have e2:∀ i r s s',WB (okG B ok0 g w) w av v i r s s'=(NR (okG B ok0 g w) w av v∧i=r∧s=s'):=by
   intro i r s s'
   unfold WB
   split
   ·exact absurd ⟨_,_,_,rfl⟩ hq
   ·exact absurd ⟨_,_,rfl⟩ PM
   ·rfl
  have e3:FD (av :: l)=FD l:=by
   cases av with
   | iov t x h=>exact absurd ⟨_,_,_,rfl⟩ hq
   | _=>rfl
  have e4:M6 (av :: l)=M6 l:=by
   cases av with
   | ioa e x=>exact absurd ⟨_,_,rfl⟩ PM
   | _=>rfl
  rw [e1] at h1
  rw [e4] at Pz
  obtain ⟨h1,rfl⟩:=h1
  obtain ⟨bs,rws,k1,k2,k3⟩:=bq hI h2 Pz L1
  exact ⟨bs,rws,⟨bs,rws,by rw [e2];exact ⟨h1,rfl,rfl⟩,k1⟩,k2,by rw [e3];exact k3⟩
 | [],_ :: _,_,h,_,_=>h.elim
 | _ :: _,[],_,h,_,_=>h.elim
theorem Ymn (hI:Inv B ok0 w0 g σ a w) {ids bs hs:List Nat} {rws:List (Option (Nat×Nat))} (Hk:CA (fun id b=>g.bx id=some (b,false)) ids bs) (hr:Handed g w hs rws) (hd:Jr hs=true):ZL w bs rws:=by
 refine ⟨fun i j b u u' h1 h2=>?_,fun b u hm=>?_⟩
 ·obtain ⟨x,k1,k2⟩:=hr.cf h1
  obtain ⟨y,k3,k4⟩:=hr.cf h2
  obtain ⟨k5,k6,_⟩:=k2 b u rfl
  obtain ⟨_,k7,_⟩:=k4 b u' rfl
  have:=hI.ri _ _ _ _ _ k6 k7
  subst this
  exact YZ hd i j x k1 k3 k5
 ·obtain ⟨x,_,k2⟩:=hr.right hm
  obtain ⟨_,k6,_⟩:=k2 b u rfl
  obtain ⟨_,h2,h3⟩:=hI.rb x b u k6
  refine ⟨h2,fun hb=>?_⟩
  obtain ⟨id,_,he⟩:=Hk.right hb
  exact h3 id false he
theorem sY (hI:Inv B ok0 w0 g σ a w):∀ {ids bs:List Nat},CA (fun id b=>g.bx id=some (b,false)) ids bs→ids.Nodup→bs.Nodup
 | [],[],_,_=>List.nodup_nil
 | id :: ids,b :: bs,h,hn=>by
  refine List.nodup_cons.2 ⟨fun hm=>?_,sY hI h.2 (List.nodup_cons.1 hn).2⟩
  obtain ⟨id',h1,h2⟩:=CA.right h.2 hm
  exact (List.nodup_cons.1 hn).1 (hI.bi _ _ _ _ _ h.1 h2 ▸ h1)
 | [],_ :: _,h,_=>h.elim
 | _ :: _,[],h,_=>h.elim
theorem Mx.more {ok:Nat→Nat→Prop} {av:AV} {v:Value} {ids r:List Nat} (s:List Nat) (h:Mx ok g σ w av v ids r):Mx ok g σ w av v (ids++s) (r++s):=by
 unfold Mx at *
 split at h
 ·obtain ⟨id,b,f,gs,h1,h2⟩:=h
  exact ⟨id,b,f,gs,by rw [h1];rfl,h2⟩
 ·obtain ⟨id,fz,h1,h2⟩:=h
  exact ⟨id,fz,by rw [h1];rfl,h2⟩
 ·exact ⟨h.1,by rw [h.2]⟩
theorem JG.append {ok:Nat→Nat→Prop}:∀ {l l':List AV} {vs vs':List Value} {ids Zth:List Nat},JG ok g σ w l vs ids→JG ok g σ w l' vs' Zth→JG ok g σ w (l++l') (vs++vs') (ids++Zth)
 | [],_,[],_,_,_,h,h'=>by cases h;exact h'
 | _ :: _,_,_ :: _,_,_,_,⟨r,h1,h2⟩,h'=>⟨_,h1.more _,JG.append h2 h'⟩
 | [],_,_ :: _,_,_,_,h,_=>h.elim
 | _ :: _,_,[],_,_,_,h,_=>h.elim
theorem pQ {ok:Nat→Nat→Prop}:∀ {ds:List Dat} {us:List Value},CA (fun (d:Dat) u=>IQ ok w d.t d.x 0 u) ds us→JG ok g σ w (Is ds) us []
 | [],[],_=>rfl
 | _ :: _,_ :: _,h=>⟨_,⟨h.1,rfl⟩,pQ h.2⟩
 | [],_ :: _,h=>h.elim
 | _ :: _,[],h=>h.elim
theorem qK {ok:Nat→Nat→Prop}:∀ {ps:List (Nat×Nat)} {us:List Value} {cs:List AV},CA (fun (p:Nat×Nat) u=>Ob g σ p.1 p.2 0 u) ps us→Ps σ ps=some cs→JG ok g σ w cs us (ps.map (·.1))
 | [],[],_,_,h=>by cases h;rfl
 | (id,ver) :: ps,u :: us,cs,h,hc=>by
  unfold Ps at hc
  split at hc
  ·rename_i hv
   split at hc
   ·rename_i t x gs hx
    split at hc
    ·rename_i l hl
     cases hc
     obtain ⟨b,f,hb,hp⟩:=h.1.2 hv
     exact ⟨_,⟨id,b,f,gs,rfl,hp,hb,hx,rfl⟩,qK h.2 hl⟩
    ·cases hc
   ·cases hc
  ·cases hc
 | [],_ :: _,_,h,_=>h.elim
 | _ :: _,[],_,h,_=>h.elim
theorem OU {ok ok':Nat→Nat→Prop} {w w':World}:∀ {t:Ty} {x:t.D} {cs:List Value},Hy t=true→RepD ok w t x cs→RepD ok' w' t x cs
 | .int _,_,_,_,h=>h
 | .bool,_,_,_,h=>h
 | .str,_,_,_,h=>h
 | .sl _,_,_,hw,_=>by cases hw
 | .wrap a,_,_,hw,h=>OU (t:=a) hw h
 | .pair a b,_,_,hw,h=>by
  unfold Hy at hw
  rw [Bool.and_eq_true] at hw
  obtain ⟨c1,c2,rfl,h1,h2⟩:=h
  exact ⟨c1,c2,rfl,OU hw.1 h1,OU hw.2 h2⟩
 | .arr m e,_,_,hw,h=>⟨h.1,h.2.1,fun i x hi=>OU (t:=e) hw (h.2.2 i x hi)⟩
 | .lk _,_,_,_,h=>h
theorem fH {ok ok':Nat→Nat→Prop} {w w':World} {e:Ty} (he:Hy e=true) {l:List e.D} {cur:Array Value} (h:J9 ok w e l cur):J9 ok' w' e l cur:=fun i x hi=>by
 obtain ⟨ys,h1,h2⟩:=h i x hi
 exact ⟨ys,OU he h1,h2⟩
theorem uR {ok ok':Nat→Nat→Prop} {ρ:Nat→Option (Nat×Nat)}:∀ {ds:List Con} {bs:List Nat} {j:Nat},(∀ d∈ds,Wl d=true)→Ld ok ρ w j ds bs→Ld ok' ρ w j ds bs
 | [],[],_,_,_=>trivial
 | d :: ds,b :: bs,_,hw,⟨h,h3⟩=>by
  refine ⟨?_,uR (fun x hx=>hw x (Az _ hx)) h3⟩
  have hd:=hw d (Av ..)
  cases d with
  | var t x g=>obtain ⟨cs,T,h1,h2,h4⟩:=h;exact ⟨cs,T,h1,OU hd h2,h4⟩
  | arr e l f=>obtain ⟨hf,cur,T,y,h1,hy,h2,h3,h4⟩:=h;exact ⟨hf,cur,T,y,h1,hy,h2,h3,fH hd h4⟩
  | val v=>exact h.elim
 | [],_ :: _,_,_,h=>h.elim
 | _ :: _,[],_,_,h=>h.elim
theorem uS {ok ok':Nat→Nat→Prop} {ρ ρ':Nat→Option (Nat×Nat)}:∀ {ds:List Dat} {vs:List Value} {j:Nat},(ds.all fun d=>Hy d.t && d.g.isEmpty)=true→K4 ok ρ w j ds vs→K4 ok' ρ' w j ds vs
 | [],[],_,_,_=>trivial
 | d :: ds,v :: vs,j,hw,⟨⟨cs,h1,h2,h3⟩,h4⟩=>by
  rw [List.all_cons,Bool.and_eq_true,Bool.and_eq_true] at hw
  obtain ⟨⟨cO,cP⟩,hw3⟩:=hw
  have hg:d.g=[]:=List.isEmpty_iff.1 cP
  rw [hg] at h4
  refine ⟨⟨cs,OU cO h1,h2,by rw [hg];trivial⟩,?_⟩
  rw [hg]
  exact uS hw3 h4
 | [],_ :: _,_,_,h=>h.elim
 | _ :: _,[],_,_,h=>h.elim
theorem Zg6 {ok ok':Nat→Nat→Prop} {av:AV} {D9:List Con} {bs:List Nat} {rws:List (Option (Nat×Nat))} {v:Value} (ha:Wk av=true) (hi:∀ d∈D9,Wl d=true) (h:NS ok w w' av D9 bs rws v):NS ok' w w' av D9 bs rws v:=by
 obtain ⟨ρ,h1,h2,h3,h4⟩:=h
 refine ⟨ρ,h1,h2,uR hi h3,?_⟩
 cases av with
 | dat t x g=>
  unfold Wk at ha
  rw [Bool.and_eq_true] at ha
  have hg:g=[]:=List.isEmpty_iff.1 ha.2
  subst hg
  obtain ⟨cs,k1,k2,_⟩:=h4
  exact ⟨cs,OU ha.1 k1,k2,trivial⟩
 | tup ds=>
  obtain ⟨vs,k1,k2⟩:=h4
  exact ⟨vs,k1,uS ha k2⟩
 | _=>cases ha
theorem sZ (Gu:Inv B ok0 w0 g σ1 a w) (hd:∀ d,o.dst=some d→d<a.tmps.size) {ids bs hs:List Nat} {rws:List (Option (Nat×Nat))} (Hk:CA (fun id b=>g.bx id=some (b,false)) ids bs) (EG:Handed g w hs rws) (GY:J3 σ1 ids=true) {av:AV} {D9:List Con} (KA:M9 σ1 ids D9) {v:Value} {next:Act→World→Prop}
  (hn:∀ g' a' w',Inv B ok0 w0 g' (imp o ids (DW hs σ1) av D9) a' w'→a'.tmps.size=a.tmps.size→next a' w') (hb:BelowX ⟨w.heap.size,bs,rws⟩ w w') (Pv:NS (okG B ok0 g w) w w' av D9 bs rws v):next (a.put o.dst v) w':=by
 obtain ⟨Hc,_⟩:=UI GY
 obtain ⟨ρ,h1,h2,Iy,I8⟩:=Pv
 unfold imp at hn
 cases Fs:o.dst with
 | none=>
  rw [Fs] at hn
  simp only at hn
  obtain ⟨g2,Fh,_,_,_⟩:=YJ Gu hb h1 h2 Hk Hc EG KA.bare 0 0 (fun g' _ BE=>gm BE D9 bs _ Iy)
  rw [UX] at Fh
  exact hn g2 _ _ Fh (by simp [Act.put])
 | some d=>
  rw [Fs] at hn
  simp only at hn
  unfold TX at I8
  split at I8
  ·rename_i t x gs
   obtain ⟨cs,E0,hv,Su⟩:=I8
   simp only [Tt,Rw,Au,UN] at hn
   have E2:=UN d 0 (Ge gs) (K5 D9) (DW hs σ1)
   rw [Au] at E2
   rw [Yl d (DW hs σ1) D9 (Ge gs) (by omega),E2] at hn
   obtain ⟨g2,Fh,BE,ER,_⟩:=YJ Gu hb h1 h2 Hk Hc EG (KA.Ks d (DW hs σ1) (Ge gs)) d (Ge gs+K5 D9) (fun g' ER BE=>lp ER BE D9 bs (Ge gs) (Ah _) Iy)
   refine hn g2 _ _ (Fh.put (dst:=some d) ⟨cs,E0.mono (fun b o hk=>⟨BE b o hk,rfl⟩),hv,?_⟩ (fun d' Hq=>hd d' (by rw [Fs];exact Hq))) (ND _ _ _)
   rw [(Ym _ _ _).2.2]
   exact UZ ER gs 0 (by omega) Su
  ·rename_i ds
   obtain ⟨vs,hv,Xz⟩:=I8
   simp only [gk,Rw,Au] at hn
   have E2:=UN d 0 (JM ds) (K5 D9) (DW hs σ1)
   rw [Au] at E2
   rw [Yl d (DW hs σ1) D9 (JM ds) (by omega),E2] at hn
   obtain ⟨g2,Fh,BE,ER,_⟩:=YJ Gu hb h1 h2 Hk Hc EG (KA.Ks d (DW hs σ1) (JM ds)) d (JM ds+K5 D9) (fun g' ER BE=>lp ER BE D9 bs (JM ds) (Ah _) Iy)
   refine hn g2 _ _ (Fh.put (dst:=some d) ⟨vs,hv,?_⟩ (fun d' Hq=>hd d' (by rw [Fs];exact Hq))) (ND _ _ _)
   have key:∀ (σ1:St) (N:Nat) (hN:∀ k,k<N→g2.rw (B3 d k) = ρ k) (σ2:St) (h2:σ2.r=(Ep d 0 N σ1).r) (ds:List Dat) (vs:List Value) (j:Nat),j+JM ds≤N→K4 (DE (okG B ok0 g w) w w' rws ρ) ρ w' j ds vs→
     CA (fun (q:Dat) u=>Qt (okG B ok0 g2 w') g2 σ2 w' q.t q.x q.g u) (QF d σ1 j ds) vs:=by
    intro σ1 N hN σ2 h2 ds
    induction ds with
    | nil=>intro vs j _ h;cases vs with
     | nil=>trivial
     | cons _ _=>exact h.elim
    | cons q ds ih=>
     intro vs j hj h
     cases vs with
     | nil=>exact h.elim
     | cons v vs=>
      obtain ⟨⟨cs,h3,h4,h5⟩,h6⟩:=h
      unfold JM at hj
      exact ⟨⟨cs,h3.mono (fun b o hk=>⟨BE b o hk,rfl⟩),h4,by rw [h2];exact UZ hN q.g j (by omega) h5⟩,ih vs _ (by omega) h6⟩
   exact key _ (JM ds+K5 D9) ER _ (Ym _ _ _).2.2 ds vs 0 (by omega) Xz
  ·rename_i e l
   obtain ⟨rfl,rfl,Jt,b,cap,cur,T,q1,q2,q3,q4,q5,q6,rfl,q8⟩:=I8
   have I0:ids=[]:=by cases ids with
    | nil=>rfl
    | cons _ _=>exact Hk.elim
   have hh0:hs=[]:=by cases hs with
    | nil=>rfl
    | cons _ _=>exact EG.elim
   subst I0 hh0
   have Dz:Below w.heap.size w w':=hb.below
   have Fh:=Gu.Cw (nb:=b) (id:=d) (c:= .arr e l false) (Nat.lt_of_lt_of_le (hd d Fs) Gu.tm) Dz q1 q2 fun ok g' σ' Dt=>⟨rfl,cur,T,_,q3, .inl rfl,by rw [q4];exact AJ _ q5,by omega,fH Jt q8⟩
   refine hn _ _ _ (Fh.put (dst:=some d) ⟨?_,fun _=>⟨e,l,false,?_, .inr ⟨b,false,cap,cur,T,_,?_,q3,q4,q5,q6,rfl⟩⟩⟩ (fun d' Hq=>hd d' (by rw [Fs];exact Hq))) (ND _ _ _)
   ·simp [St.Cw,BD,DW,GK]
   ·simp [St.Cw,BD]
   ·simp [G.Dq,BD]
  ·rename_i k n
   obtain ⟨b,cap,e,l,f,A,q1,q2,q3,q4,q5,q8,q9,rfl⟩:=I8
   obtain ⟨id,q6,q7⟩:=Hk.cf q1
   obtain ⟨g2,Fh,_,_,Db⟩:=YJ Gu hb h1 h2 Hk Hc EG KA.bare 0 0 (fun g' _ BE=>gm BE D9 bs _ Iy)
   rw [UX] at Fh
   simp only [q6] at hn
   refine hn g2 _ _ (Fh.put (dst:=some d) ⟨Ah _,fun _=>⟨e,l,f,A,cap,?_,by omega,q4,q5,fun h0=>⟨b,false,by rw [Db];exact q7,by rw [Nat.zero_mul];exact q8 h0⟩,q9,rfl⟩⟩ (fun d' Hq=>hd d' (by rw [Fs];exact Hq))) (ND _ _ _)
   exact YI Hc q6 (by rw [List.getElem?_map,q2];rfl)
  ·exact I8.elim
theorem s0 (hI:Inv B ok0 w0 g σ a w) (hs:Still B ok0 g g' σ σ1 w):∀ {ids bs:List Nat},CA (fun id b=>g'.bx id=some (b,false)) ids bs→(∀ id∈ids,(∃ t x gs,σ.c id=some (.var t x gs))∨∃ e l,σ.c id=some (.arr e l false))→
  CA (fun id b=>g.bx id=some (b,false)) ids bs
 | [],[],_,_=>trivial
 | id :: ids,b :: bs,⟨h1,h2⟩,hv=>by
  have h1:g'.bx id=some (b,false):=h1
  refine ⟨?_,s0 hI hs h2 fun i hi=>hv i (Az _ hi)⟩
  obtain ⟨_,k6,_,k8,_⟩:=(hs.ext.box id (σ.v id) (Ah _)).2 (by rw [hs.v])
  have hc:∃ c,σ.c id=some c∧∀ e l fz,c = .arr e l fz→fz=false:=by
   rcases hv id (Av ..) with ⟨t,x,gs,hc⟩ | ⟨e,l,hc⟩
   ·exact ⟨_,hc,fun _ _ _ he=>by cases he⟩
   ·exact ⟨_,hc,fun _ _ _ he=>by cases he;rfl⟩
  obtain ⟨c,hc,hz⟩:=hc
  cases Db:g.bx id with
  | none=>rw [k8 Db] at h1;cases h1
  | some q=>
   obtain ⟨b0,f0⟩:=q
   obtain ⟨f',Ff⟩:=k6 b0 f0 Db
   rw [h1] at Ff
   cases Ff
   have hk:=hI.Hj Db hc
   cases c with
   | var t x gs=>rw [hk.1]
   | arr e l fz=>rw [hk.1,hz e l fz rfl]
   | val v=>rw [hk.1]
 | [],_ :: _,h,_=>h.elim
 | _ :: _,[],h,_=>h.elim
theorem Ynn {l:List AV} {r:CallRes} {y:r.α} (h:mA l r=some y):r.m=some y∧(JI l=false∨M6 l=true∧N1 l (r.io y)=true):=by
 unfold mA at h
 cases ha:JI l with
 | true=>
  rw [ha] at h
  have h:mG l r=some y:=h
  unfold mG at h
  cases hf:M6 l with
  | false=>rw [hf] at h;cases h
  | true=>
   rw [hf] at h
   have h':(r.m.bind fun x=>bif N1 l (r.io x) then some x else none)=some y:=h
   cases hm:r.m with
   | none=>rw [hm] at h';cases h'
   | some z=>
    rw [hm] at h'
    have h2:(bif N1 l (r.io z) then some z else none)=some y:=h'
    cases hk:N1 l (r.io z) with
    | false=>rw [hk] at h2;cases h2
    | true=>rw [hk] at h2;cases h2;exact ⟨rfl, .inr ⟨rfl,hk⟩⟩
 | false=>
  rw [ha] at h
  exact ⟨h, .inl rfl⟩
theorem uT:∀ {l:List AV},JI l=false→M6 l=true
 | [],_=>rfl
 | a :: l,h=>by
  cases a with
  | ioa e x=>cases h
  | _=>exact uT (l:=l) h
theorem Vi {ok:Nat→Nat→Prop}:∀ {l:List AV} {vs:List Value} {ids:List Nat},JG ok g σ w l vs ids→JI l=false→∀ id∈ids,∃ t x gs,σ.c id=some (.var t x gs)
 | [],[],_,h,_,id,hm=>by cases h;cases hm
 | a :: l,v :: vs,ids,⟨r,h1,h2⟩,hn,id,hm=>by
  cases a with
  | ioa e x=>cases hn
  | iov t x h=>
   obtain ⟨i,b,f,gs,rfl,_,_,hc,_⟩:=h1
   rcases List.mem_cons.1 hm with rfl | hm
   ·exact ⟨t,x,gs,hc⟩
   ·exact Vi h2 hn id hm
  | _=>obtain ⟨_,rfl⟩:=h1;exact Vi h2 hn id hm
 | [],_ :: _,_,h,_,_,_=>h.elim
 | _ :: _,[],_,h,_,_,_=>h.elim
theorem Zj {ok:Nat→Nat→Prop}:∀ {l:List AV} {vs:List Value} {ids:List Nat} {cs:List Con},JG ok g σ w l vs ids→N1 l cs=true→M9 σ ids cs
 | [],[],_,_,h,_=>by cases h;intro k id e l fz h1;simp at h1
 | a :: l,v :: vs,ids,cs,⟨r,h1,h2⟩,hk=>by
  cases a with
  | ioa e x=>
   obtain ⟨i,fz,rfl,hc,_⟩:=h1
   cases cs with
   | nil=>cases hk
   | cons c cs=>
    cases c with
    | arr e' l' f'=>
     have CF:(decide (e'=e) && (!f' && (decide (List.length (α:=e'.D) l'=List.length (α:=e.D) x) && N1 l cs)))=true:=hk
     rw [Bool.and_eq_true,Bool.and_eq_true,Bool.and_eq_true] at CF
     obtain ⟨q1,q2,q3,q4⟩:=CF
     have q1:=Ak q1
     subst q1
     have q3:=Ak q3
     cases f' with
     | true=>cases q2
     | false=>
      intro k id e2 l2 Hp g1 g2
      cases k with
      | zero=>
       simp only [List.getElem?_cons_zero,Option.some.injEq] at g1
       subst g1
       rw [hc] at g2
       cases g2
       exact ⟨l',rfl,q3⟩
      | succ k=>
       simp only [List.getElem?_cons_succ] at g1 ⊢
       exact Zj h2 q4 k id e2 l2 Hp g1 g2
    | _=>cases hk
  | iov t x h=>
   obtain ⟨i,b,f,gs,rfl,_,_,hc,_⟩:=h1
   cases cs with
   | nil=>cases hk
   | cons c cs=>
    intro k id e2 l2 Hp g1 g2
    cases k with
    | zero=>
     simp only [List.getElem?_cons_zero,Option.some.injEq] at g1
     subst g1
     rw [hc] at g2
     cases g2
    | succ k=>
     simp only [List.getElem?_cons_succ] at g1 ⊢
     exact Zj h2 hk k id e2 l2 Hp g1 g2
  | _=>
   obtain ⟨_,rfl⟩:=h1
   exact Zj h2 hk
 | [],_ :: _,_,_,h,_=>h.elim
 | _ :: _,[],_,_,h,_=>h.elim
theorem qL (hC:GJ P E) (hI:Inv B ok0 w0 g σ a w) (Gu:Inv B ok0 w0 g' σ1 a w) (EP:Still B ok0 g g' σ σ1 w) (hd:∀ d,o.dst=some d→d<a.tmps.size) {f:Nat} {s:Spec} (hs:E.call f=some s) {l:List AV} {vs:List Value} {ids:List Nat}
  (Cy:JG (okG B ok0 g' w) g' σ1 w l vs ids) (GY:(J3 (JJ (E.lend f) σ σ1) ids && (Jr (FD l) && (!E.lend f || ((FD l).isEmpty && !JI l))))=true) {r:CallRes} (hr:s l=some r) (BA:(execOp a.eval o).run P w = .ok (.enter f vs.toArray) w):
  Dp P B ok0 w0 (.call r.α (mA l r) fun x=>imp o ids (DW (FD l) (JJ (E.lend f) σ σ1)) (r.enc x) (r.io x)) o a w:=by
 rw [Bool.and_eq_true,Bool.and_eq_true] at GY
 obtain ⟨GY,Ue,Sa⟩:=GY
 intro next Q y hy hn
 obtain ⟨hy,Nd⟩:=Ynn hy
 have TW:M6 l=true:=by
  rcases Nd with h | h
  ·exact uT h
  ·exact h.1
 have Zlf:E.lend f=true→JI l=false:=fun hle=>by
  rw [hle] at Sa
  cases ha:JI l with
  | false=>rfl
  | true=>rw [ha] at Sa;simp at Sa
 have Yh1:∀ id∈ids,(∃ t x gs,σ1.c id=some (.var t x gs))∨∃ e l,σ1.c id=some (.arr e l false):=fun id hm=>by
  cases hle:E.lend f with
  | true=>exact .inl (Vi Cy (Zlf hle) id hm)
  | false=>rw [hle] at GY;exact (UI GY).2 id hm
 have KA:M9 σ1 ids (r.io y):=by
  rcases Nd with h | h
  ·intro k id e l fz h1 h2
   obtain ⟨t,x,gs,h3⟩:=Vi Cy h id (List.mem_of_getElem? h1)
   rw [h2] at h3;cases h3
  ·exact Zj Cy h.2
 obtain ⟨Mv,_,Yi1⟩:=hC f s hs
 obtain ⟨bs,rws,DK,Hk,TZ⟩:=bq Gu Cy TW Yh1
 have Hc:=(UI GY).1
 obtain ⟨z,z1,z2,z3⟩:=Gu.Yj1
 have Yqt:=Mv l r y hr hy (okG B ok0 g' w) w vs bs rws ⟨z,z1,fun b hm=>by
   obtain ⟨id,_,he⟩:=Hk.right hm
   exact z2 b (by rcases (Gu.bb id b false he).1 with h | h;exact .inl h;exact .inr h.1),fun b u hm=>by
   obtain ⟨id,_,he⟩:=TZ.right hm
   exact z3 b (by rcases (Gu.rb id b u (he b u rfl).2.1).1 with h | ⟨u0,h,_⟩;exact .inl h;exact .inr ⟨u0,h⟩)⟩ (fun b o hk=>⟨Gu.okB hk,fun hm=>by
   obtain ⟨id,_,he⟩:=Hk.right hm
   exact Gu.Zjf hk he,fun u hm=>by
   obtain ⟨id,_,he⟩:=TZ.right hm
   exact Gu.ln hk (he b u rfl).2.1⟩) (sY Gu Hk Hc) (fun b hm=>by
  obtain ⟨id,_,he⟩:=Hk.right hm
  exact (Gu.bb id b false he).2) (Ymn Gu Hk TZ Ue) DK
 unfold Oper.wp
 rw [BA]
 show Calls P f _ w _
 refine Yqt.mono fun e w' h=>?_
 obtain ⟨v,rfl,hb,Pv⟩:=h
 simp only
 revert GY hn Sa
 cases hle:E.lend f with
 | false=>
  intro GY _ hn
  exact sZ Gu hd Hk TZ GY KA hn hb Pv
 | true=>
  intro GY Sa hn
  obtain ⟨cO,cP⟩:=Yi1 hle l r y hr
  have h0:FD l=[]:=by
   rw [Bool.not_true,Bool.false_or,Bool.and_eq_true] at Sa
   exact List.isEmpty_iff.1 Sa.1
  have Yo4:M9 σ ids (r.io y):=fun k id e l' fz h1 h2=>by
   obtain ⟨t,x,gs,h3⟩:=Vi Cy (Zlf hle) id (List.mem_of_getElem? h1)
   obtain ⟨f',h4⟩:=EP.arr _ _ _ _ h2
   rw [h4] at h3;cases h3
  rw [h0] at TZ hn
  have Ki:rws=[]:=by cases rws with
   | nil=>rfl
   | cons _ _=>exact TZ.elim
  subst Ki
  exact sZ (hs:=[]) (rws:=[]) hI hd (s0 hI EP Hk (UI GY).2) (show Handed g w [] [] from trivial) GY Yo4 hn hb (Zg6 cO cP Pv)
theorem qM {c:Call} (hlen:c.args.toList.length=c.argTypes.toList.length):(c.args.toList.zip c.argTypes.toList).map (fun p=>a.eval p.1)=(c.args.map a.eval).toList:=by
 rw [Array.toList_map,← List.map_fst_zip (l₁:=c.args.toList) (l₂:=c.argTypes.toList) (by omega),List.map_map,List.map_fst_zip (by omega)]
 rfl
theorem Yin (hC:GJ P E) (hI:Inv B ok0 w0 g σ a w) (hd:∀ d,o.dst=some d→d<a.tmps.size) {c:Call} (ho:o.op = .call c) {x:Operand} (hc:c.callee = .value x) {f:Nat} {SD:List Dat} (hf:A8 σ x = .fn f SD) {s:Spec} (hs:E.call f=some s)
  {l:List AV} (hl:Jh E (E.inpl f) (c.args.toList.zip c.argTypes.toList) σ = some (l,σ1)) (hlen:c.args.toList.length=c.argTypes.toList.length) {r:CallRes} (hr:s (D5 l (Is SD))=some r) (GY:(J3 (JJ (E.lend f) σ σ1) (Fm σ (E.inpl f) c.args.toList) && (Jr (FD (D5 l (Is SD))) && (!E.lend f || ((FD (D5 l (Is SD))).isEmpty && !JI (D5 l (Is SD))))))=true):
  Dp P B ok0 w0 (.call r.α (mA (D5 l (Is SD)) r) fun x=>imp o (Fm σ (E.inpl f) c.args.toList) (DW (FD (D5 l (Is SD))) (JJ (E.lend f) σ σ1)) (r.enc x) (r.io x)) o a w:=by
 rw [fG] at hr GY ⊢
 obtain ⟨g1,Gu,Up,Cy⟩:=gl hI hl
 have XC:=Ec hI x
 rw [hf] at XC
 obtain ⟨vs,hv,h2⟩:=XC
 rw [qM hlen,List.map_fst_zip (by omega)] at Cy
 have:=Cy.append (pQ (g:=g1) (σ:=σ1) (w:=w) (h2.imp fun d u h=>h.mono fun b o hk=>(Up.ext.cell b o hk).1))
 rw [Ay] at this
 refine qL hC hI Gu Up hd hs this GY hr ?_
 unfold execOp;rw [ho]
 simp [resolve,hc,hv,Deferred.ofValue,invoke]
 rw [show c.args.map a.eval++vs.toArray=((c.args.map a.eval).toList++vs).toArray by simp]
 simpa using (hC f s hs).2.1 ((c.args.map a.eval).toList++vs).toArray w
theorem Ynt (hC:GJ P E) (hI:Inv B ok0 w0 g σ a w) (hd:∀ d,o.dst=some d→d<a.tmps.size) {c:Call} (ho:o.op = .call c) {x:Operand} (hc:c.callee = .value x) {f:Nat} {ps:List (Nat×Nat)} (hf:A8 σ x = .clo f ps) {s:Spec} (hs:E.call f=some s)
  {l cs:List AV} (hl:Jh E (E.inpl f) (c.args.toList.zip c.argTypes.toList) σ = some (l,σ1)) (Co:Ps σ ps=some cs) (hlen:c.args.toList.length=c.argTypes.toList.length) {r:CallRes} (hr:s (D5 l cs)=some r)
  (GY:(J3 (JJ (E.lend f) σ σ1) (Fm σ (E.inpl f) c.args.toList++ps.map (·.1)) && (Jr (FD (D5 l cs)) && (!E.lend f || ((FD (D5 l cs)).isEmpty && !JI (D5 l cs)))))=true):
  Dp P B ok0 w0 (.call r.α (mA (D5 l cs) r) fun x=>imp o (Fm σ (E.inpl f) c.args.toList++ps.map (·.1)) (DW (FD (D5 l cs)) (JJ (E.lend f) σ σ1)) (r.enc x) (r.io x)) o a w:=by
 rw [fG] at hr GY ⊢
 obtain ⟨g1,Gu,Up,Cy⟩:=gl hI hl
 have XC:=Ec hI x
 rw [hf] at XC
 obtain ⟨vs,hv,h2⟩:=XC
 rw [qM hlen,List.map_fst_zip (by omega)] at Cy
 have:=Cy.append ((qK (ok:=okG B ok0 g w) (w:=w) h2 Co).still Up)
 refine qL hC hI Gu Up hd hs this GY hr ?_
 unfold execOp;rw [ho]
 simp [resolve,hc,hv,Deferred.ofValue,invoke]
 rw [show c.args.map a.eval++vs.toArray=((c.args.map a.eval).toList++vs).toArray by simp]
 simpa using (hC f s hs).2.1 ((c.args.map a.eval).toList++vs).toArray w
end
end Go.AM
end

section
/- Every operation, put together; guards, regions in the text's order. -/
namespace Go.AM
open Go.RowKit (Below)
set_option linter.unusedSectionVars false
variable [Lay]
section
variable {P : Program} {B : Bd} {ok0 : Nat → Nat → Prop} {w0 w w' : World} {g g' : G} {σ σ1 : St} {a : Act} {o : Oper} {E : Env}
theorem Zt5 (hE:EnvOk P E) (hC:GJ P E) (hI:Inv B ok0 w0 g σ a w) (hd:∀ d,o.dst=some d→d<a.tmps.size) {c:Call} (ho:o.op = .call c):
  Dp P B ok0 w0 (Mn E c o σ) o a w:=by
 unfold Mn
 split
 ·rename_i b hb
  split
  ·rename_i x T ha FI
   exact Ymt hE hI hd ho hb ha FI
  ·rename_i s x T U ha FI
   split
   ·rename_i id ver hs
    exact Zjq hE hI hd ho hb ha FI hs
   ·exact Zru hE hI hd ho hb ha FI
  ·rename_i x T ha FI
   exact Zu5 hE hI hd ho hb ha FI
  ·rename_i s x T U ha FI
   exact Yhn hE hI hd ho hb ha FI
  ·rename_i ha
   refine qJ (F:=Builtin.min2) hI hd (fun k j x y=>rfl) fun v r hv u hu=>?_
   unfold execOp;rw [ho]
   simp [resolve,hb,invoke,builtin,Builtin.min_,hv,hu]
  ·rename_i ha
   refine qJ (F:=Builtin.max2) hI hd (fun k j x y=>rfl) fun v r hv u hu=>?_
   unfold execOp;rw [ho]
   simp [resolve,hb,invoke,builtin,Builtin.max_,hv,hu]
  ·exact Bp
 ·rename_i x hx
  split
  ·rename_i f ds hf
   split
   ·rename_i s hs
    split
    ·rename_i hlen
     split
     ·rename_i l σ' hl
      split
      ·rename_i r hr
       cases GY:(J3 (JJ (E.lend f) σ σ') (Fm σ (E.inpl f) c.args.toList) && (Jr (FD (D5 l (Is ds))) && (!E.lend f || ((FD (D5 l (Is ds))).isEmpty && !JI (D5 l (Is ds)))))) with
       | true=>exact Yin hC hI hd ho hx hf hs hl hlen hr GY
       | false=>exact Bp
      ·exact Bp
     ·exact Bp
    ·exact Bp
   ·exact Bp
  ·rename_i f ps hf
   split
   ·rename_i s hs
    split
    ·rename_i hlen
     split
     ·rename_i l σ' cs hl Co
      split
      ·rename_i r hr
       cases GY:(J3 (JJ (E.lend f) σ σ') (Fm σ (E.inpl f) c.args.toList++ps.map (·.1)) && (Jr (FD (D5 l cs)) && (!E.lend f || ((FD (D5 l cs)).isEmpty && !JI (D5 l cs))))) with
       | true=>exact Ynt hC hI hd ho hx hf hs hl Co hlen hr GY
       | false=>exact Bp
      ·exact Bp
     ·exact Bp
    ·exact Bp
   ·exact Bp
  ·exact Bp
 ·exact Bp
theorem Yjn (hE:EnvOk P E) (hC:GJ P E) (hI:Inv B ok0 w0 g σ a w) (hd:∀ d,o.dst=some d→d<a.tmps.size):Dp P B ok0 w0 (Ee E σ o) o a w:=by
 cases ho:o.op with
 | nilCheck x=>exact Zwn hI hd ho
 | move x=>unfold Ee;rw [ho];exact sU hI hd (.inl ho)
 | assign x=>unfold Ee;rw [ho];exact sU hI hd (.inr ho)
 | alloc T=>unfold Ee;rw [ho];exact Zv5 hE hI hd ho
 | box T x=>unfold Ee;rw [ho];exact Yot hE hI hd ho
 | build T ps=>
  unfold Ee;rw [ho]
  dsimp only
  split
  ·rename_i t hT
   split
   ·rename_i Oa
    split
    ·rename_i z gs h;exact Zw5 hE hI hd ho hT Oa h
    ·exact Bp
   ·exact Bp
  ·exact Bp
 | buildSlice T n ps=>unfold Ee;rw [ho];exact Zel hE hI hd ho
 | load T x=>unfold Ee;rw [ho];exact Ykn hE hI hd ho
 | store T x y=>unfold Ee;rw [ho];exact Zx5 hE hI hd ho
 | binOp op T x y U=>
  unfold Ee;rw [ho]
  dsimp only
  cases hn:TB y with
  | true=>exact Zy5 hE hI hd ho hn
  | false=>exact Zz5 hE hI hd ho
 | unOp op T x=>unfold Ee;rw [ho];exact Yln hI hd ho
 | convert src dst x=>
  unfold Ee;rw [ho]
  by_cases h:E.ty src=some .str∧E.ty dst=some (.sl (.int .u8))
  ·exact Za6 hE hI hd ho h.1 h.2
  ·exact Zkq hE hI hd ho h
 | makeFunc fn p q=>
  unfold Ee;rw [ho]
  cases fn with
  | func f=>
   dsimp only
   split
   ·rename_i h
    cases Db:Hi E o.dst with
    | true=>
     dsimp only [cond]
     split
     ·rename_i ps hq;exact Zlq hI hd ho h hq
     ·exact Bp
    | false=>
     dsimp only [cond]
     split
     ·rename_i ds σ' hq;exact Zxn hI hd ho h hq
     ·exact Bp
   ·exact Bp
  | _=>exact Bp
 | makeSlice T x y=>unfold Ee;rw [ho];exact Zim hE hI hd ho
 | slice T x lo hi mx=>
  unfold Ee;rw [ho]
  cases mx with
  | none=>exact Zb6 hE hI hd ho
  | some m=>exact Bp
 | fieldAddr S x f=>unfold Ee;rw [ho];exact Zjm hE hI hd ho
 | field S x f=>unfold Ee;rw [ho];exact Zc6 hE hI hd ho
 | indexAddr T x i=>unfold Ee;rw [ho];exact Zkm hE hI hd ho
 | index T x i=>unfold Ee;rw [ho];exact Zd6 hE hI hd ho
 | extract x i=>unfold Ee;rw [ho];exact Zmq hI hd ho
 | call c=>unfold Ee;rw [ho];exact Zt5 hE hC hI hd ho
 | _=>unfold Ee;rw [ho];exact Bp
def Step.to (s:Step) (σ':St):Prop:=
 match s with
 | .no=>False
 | .go c σ1=>c=true∧σ' = σ1
 | .call _ m f=>∃ x,m=some x∧σ'=f x
theorem Step.Ze6 {R:Type} {s:Step} {k:St→Option R} {r:R} (h:s.run k=some r):∃ σ',s.to σ'∧k σ'=some r:=by
 cases s with
 | no=>cases h
 | go c σ1=>
  cases c with
  | true=>exact ⟨σ1,⟨rfl,rfl⟩,h⟩
  | false=>cases h
 | call α m f=>
  obtain ⟨x,hx,hk⟩:=Option.bind_eq_some_iff.1 h
  exact ⟨f x,⟨x,hx,rfl⟩,hk⟩
def IJ (E:Env) (σ:St) (o:Oper) (σ':St):Prop:=
 match o.op with
 | .pick c x y=>∃ t gs,A8 σ c = .dat .bool t gs∧σ' = σ.BJ o.dst (if t=true then A8 σ x else A8 σ y)
 | _=>(Ee E σ o).to σ'
theorem eb {R:Type} {k:St→Option R} {r:R} (h:Wm E σ o k=some r):∃ σ',IJ E σ o σ'∧k σ'=some r:=by
 unfold Wm at h
 unfold IJ
 split at h
 ·rename_i c x y ho
  rw [ho]
  dsimp only
  split at h
  ·rename_i t gs hc
   cases t with
   | true=>exact ⟨_,⟨true,gs,hc,rfl⟩,h⟩
   | false=>exact ⟨_,⟨false,gs,hc,rfl⟩,h⟩
  ·cases h
 ·rename_i hno
  obtain ⟨σ',h1,h2⟩:=Step.Ze6 h
  refine ⟨σ',?_,h2⟩
  split
  ·rename_i c x y ho;exact absurd ho (hno c x y)
  ·exact h1
theorem Ylt (hE:EnvOk P E) (hC:GJ P E) (hI:Inv B ok0 w0 g σ a w) (hd:∀ d,o.dst=some d→d<a.tmps.size) {σ':St} (h:IJ E σ o σ') {next:Act→World→Prop} {Q:Exit→Act→World→Prop}
  (hn:∀ g' a' w',Inv B ok0 w0 g' σ' a' w'→a'.tmps.size=a.tmps.size→next a' w'):o.wp P a w next Q:=by
 unfold IJ at h
 split at h
 ·rename_i c x y ho
  obtain ⟨t,gs,hc,rfl⟩:=h
  have hcb:=eT hI hc
  have BA:(execOp a.eval o).run P w = .ok (.value (if t=true then a.eval x else a.eval y)) w:=by
   unfold execOp;rw [ho]
   simp [hcb,asBool]
  unfold Oper.wp
  rw [BA]
  refine hn g _ _ (hI.put ?_ hd) (ND _ _ _)
  cases t with
  | true=>exact Ec hI x
  | false=>exact Ec hI y
 ·have hs:=Yjn hE hC hI hd next Q
  revert h hs
  cases Ee E σ o with
  | no=>intro h _;exact h.elim
  | go c σ1=>intro h hs;obtain ⟨rfl,rfl⟩:=h;exact hs rfl hn
  | call α m f=>intro h hs;obtain ⟨x,hx,rfl⟩:=h;exact hs x hx hn
end
end Go.AM
end

section
/- Where ways meet: a state cut down to what is kept, under new names. -/
namespace Go.AM
open Go.RowKit (Below)
set_option linter.unusedSectionVars false
variable [Lay]
section
variable {P : Program} {B : Bd} {ok0 : Nat → Nat → Prop} {w0 w w' : World} {g g' : G} {σ σ1 : St} {a : Act} {o : Oper} {E : Env}
def Names:List (Nat×Nat)→Prop
 | []=>True
 | p :: s=>(∀ q∈s,q.1≠p.1)∧(p.2≠0→∀ q∈s,q.2≠p.2)∧Names s
theorem Names.inj:∀ {s:List (Nat×Nat)},Names s→∀ {n m x:Nat},(n,x)∈s→(m,x)∈s→x≠0→n=m
 | [],_,_,_,_,h,_,_=>by cases h
 | p :: s,hn,n,m,x,h1,h2,hx=>by
  rcases List.mem_cons.1 h1 with k1 | k1 <;> rcases List.mem_cons.1 h2 with k2 | k2
  ·rw [← k1] at k2;cases k2;rfl
  ·rw [← k1] at hn;exact absurd rfl (hn.2.1 hx (m,x) k2)
  ·rw [← k2] at hn;exact absurd rfl (hn.2.1 hx (n,x) k1)
  ·exact Names.inj hn.2.2 k1 k2 hx
theorem Names.fn:∀ {s:List (Nat×Nat)},Names s→∀ {n x y:Nat},(n,x)∈s→(n,y)∈s→x=y
 | [],_,_,_,_,h,_=>by cases h
 | p :: s,hn,n,x,y,h1,h2=>by
  rcases List.mem_cons.1 h1 with k1 | k1 <;> rcases List.mem_cons.1 h2 with k2 | k2
  ·rw [← k1] at k2;cases k2;rfl
  ·rw [← k1] at hn;exact absurd rfl (hn.1 (n,y) k2)
  ·rw [← k2] at hn;exact absurd rfl (hn.1 (n,x) k1)
  ·exact Names.fn hn.2.2 k1 k2
def RW (σ:St) (s:List (Nat×Nat)) (gs Hr:List Tag):Prop:=
 ∀ t'∈Hr,∃ t∈gs,t'.off=t.off∧t'.sz=t.sz∧t'.ver=0∧t'.id≠0∧(t'.id,t.id)∈s∧(t.id=0∨σ.r t.id=t.ver)
theorem RW.mono {s s':List (Nat×Nat)} {gs Hr:List Tag} (h:RW σ s gs Hr) (hs:∀ p∈s,p∈s'):RW σ s' gs Hr:=by
 intro t' GV
 obtain ⟨t,h1,h2,h3,h4,h5,h6,h7⟩:=h t' GV
 exact ⟨t,h1,h2,h3,h4,h5,hs _ h6,h7⟩
theorem Zpq {s:List (Nat×Nat)} {n:Nat} (h:(s.all fun z=>!Nat.beq z.1 n)=true):∀ q∈s,q.1≠n:=by
 intro q hq e
 have:=List.all_eq_true.1 h q hq
 subst e
 simp at this
theorem Zqq {s:List (Nat×Nat)} {n:Nat} (h:(s.all fun z=>!Nat.beq z.2 n)=true):∀ q∈s,q.2≠n:=by
 intro q hq e
 have:=List.all_eq_true.1 h q hq
 subst e
 simp at this
theorem Y1 (p:Nat):∀ (gs:List Tag) (s:List (Nat×Nat)),Names s→Names (Pb σ p gs s).2∧(∀ q∈s,q∈(Pb σ p gs s).2)∧RW σ (Pb σ p gs s).2 gs (Pb σ p gs s).1
 | [],s,h=>⟨h,fun q hq=>hq,fun t ht=>by cases ht⟩
 | t :: r,s,h=>by
  unfold Pb
  split
  ·rename_i hc
   rw [Bool.and_eq_true] at hc
   have hn:Names ((B3 p t.off,t.id) :: s):=by
    refine ⟨Zpq hc.1,fun h0=>?_,h⟩
    rcases Bool.or_eq_true _ _ ▸ hc.2 with h1 | h1
    ·exact absurd (Nat.eq_of_beq_eq_true h1) h0
    ·exact Zqq (Bool.and_eq_true _ _ ▸ h1).2
   obtain ⟨h1,h2,h3⟩:=Y1 p r _ hn
   refine ⟨h1,fun q hq=>h2 q (Az _ hq),fun t' GV=>?_⟩
   rcases List.mem_cons.1 GV with rfl | GV
   ·refine ⟨t,by simp,rfl,rfl,rfl,TF _ _,h2 _ (by simp),?_⟩
    rcases Bool.or_eq_true _ _ ▸ hc.2 with h4 | h4
    ·exact .inl (Nat.eq_of_beq_eq_true h4)
    ·exact .inr (Nat.eq_of_beq_eq_true (Bool.and_eq_true _ _ ▸ h4).1)
   ·obtain ⟨u,hu,rest⟩:=h3 t' GV
    exact ⟨u,Az _ hu,rest⟩
  ·obtain ⟨h1,h2,h3⟩:=Y1 p r s h
   refine ⟨h1,h2,fun t' GV=>?_⟩
   obtain ⟨u,hu,rest⟩:=h3 t' GV
   exact ⟨u,Az _ hu,rest⟩
def O5 (cs:List (Nat×Bool)) (σ:St) (s:List (Nat×Nat)) (a a':AV):Prop:=
 match a' with
 | .undef=>True
 | .none=>a = .none
 | .nils=>a = .nils
 | .dat t x Hr=>∃ gs,a = .dat t x gs∧RW σ s gs Hr
 | .ptr id ver off=>ver=0∧∃ v,a = .ptr id v off∧Jf cs σ id v=true
 | .slw id ver=>ver=0∧∃ v,a = .slw id v∧Jf cs σ id v=true
 | .slm id ver lo n=>ver=0∧∃ v,a = .slm id v lo n∧Jf cs σ id v=true
 | .fn f caps=>a = .fn f caps
 | .clo f qs=>∃ ps,a = .clo f ps∧qs=ps.map (fun p=>(p.1,0))∧ps.all (fun p=>Jf cs σ p.1 p.2)=true
 | .ept t x off=>a = .ept t x off
 | _=>False
theorem O5.mono {cs:List (Nat×Bool)} {s s':List (Nat×Nat)} {a a':AV} (h:O5 cs σ s a a') (hs:∀ p∈s,p∈s'):O5 cs σ s' a a':=by
 cases a' with
 | dat t x Hr=>obtain ⟨gs,h1,h2⟩:=h;exact ⟨gs,h1,h2.mono hs⟩
 | _=>exact h
theorem Zj6 (cs:List (Nat×Bool)) (p:Nat) (b:Bool) (s:List (Nat×Nat)) (a:AV) (h:Names s):Names (Wo cs σ p b s a).2∧(∀ q∈s,q∈(Wo cs σ p b s a).2)∧O5 cs σ (Wo cs σ p b s a).2 a (Wo cs σ p b s a).1:=by
 cases a with
 | dat t x gs=>
  cases b with
  | true=>
   obtain ⟨h1,h2,h3⟩:=Y1 (σ:=σ) p gs s h
   exact ⟨h1,h2,gs,rfl,h3⟩
  | false=>exact ⟨h,fun q hq=>hq,gs,rfl,fun t ht=>by cases ht⟩
 | ptr id ver off=>
  refine ⟨h,fun q hq=>hq,?_⟩
  show O5 cs σ s _ (if Jf cs σ id ver=true then AV.ptr id 0 off else .undef)
  cases hk:Jf cs σ id ver with
  | true=>exact ⟨rfl,ver,rfl,hk⟩
  | false=>trivial
 | slw id ver=>
  refine ⟨h,fun q hq=>hq,?_⟩
  show O5 cs σ s _ (if Jf cs σ id ver=true then AV.slw id 0 else .undef)
  cases hk:Jf cs σ id ver with
  | true=>exact ⟨rfl,ver,rfl,hk⟩
  | false=>trivial
 | slm id ver lo n=>
  refine ⟨h,fun q hq=>hq,?_⟩
  show O5 cs σ s _ (if Jf cs σ id ver=true then AV.slm id 0 lo n else .undef)
  cases hk:Jf cs σ id ver with
  | true=>exact ⟨rfl,ver,rfl,hk⟩
  | false=>trivial
 | fn f caps=>exact ⟨h,fun q hq=>hq,rfl⟩
 | clo f ps=>
  refine ⟨h,fun q hq=>hq,?_⟩
  show O5 cs σ s _ (if ps.all (fun p=>Jf cs σ p.1 p.2)=true then AV.clo f (ps.map fun p=>(p.1,0)) else .undef)
  cases hk:ps.all (fun p=>Jf cs σ p.1 p.2) with
  | true=>exact ⟨ps,rfl,rfl,hk⟩
  | false=>trivial
 | iov t x=>exact ⟨h,fun q hq=>hq,trivial⟩
 | ioa e l=>exact ⟨h,fun q hq=>hq,trivial⟩
 | bxv e l=>exact ⟨h,fun q hq=>hq,trivial⟩
 | slp k n=>exact ⟨h,fun q hq=>hq,trivial⟩
 | nils=>exact ⟨h,fun q hq=>hq,rfl⟩
 | none=>exact ⟨h,fun q hq=>hq,rfl⟩
 | undef=>exact ⟨h,fun q hq=>hq,trivial⟩
 | aptr id ver i off=>exact ⟨h,fun q hq=>hq,trivial⟩
 | ept t x off=>exact ⟨h,fun q hq=>hq,rfl⟩
 | tup ds=>exact ⟨h,fun q hq=>hq,trivial⟩
def TH (σ:St) (s:List (Nat×Nat)) (c c':Option Con):Prop:=
 match c' with
 | Option.none=>True
 | some (.var t x Hr)=>∃ gs,c=some (.var t x gs)∧RW σ s gs Hr
 | some (.arr e l f)=>c=some (.arr e l f)
 | some (.val v)=>c=some (.val v)∧∃ f,v = .fn f []
theorem TH.mono {s s':List (Nat×Nat)} {c c':Option Con} (h:TH σ s c c') (hs:∀ p∈s,p∈s'):TH σ s' c c':=by
 unfold TH at *
 split at h
 ·trivial
 ·obtain ⟨gs,h1,h2⟩:=h;exact ⟨gs,h1,h2.mono hs⟩
 ·exact h
 ·exact h
theorem Zk6 (p:Nat) (b:Bool) (s:List (Nat×Nat)) (c:Option Con) (h:Names s):Names (TO σ p b s c).2∧(∀ q∈s,q∈(TO σ p b s c).2)∧TH σ (TO σ p b s c).2 c (TO σ p b s c).1∧
  (∀ e l f,c=some (.arr e l f)→(TO σ p b s c).1=some (.arr e l f)):=by
 cases c with
 | none=>exact ⟨h,fun q hq=>hq,trivial,fun e l f he=>by cases he⟩
 | some c=>
  cases c with
  | var t x gs=>
   cases b with
   | true=>
    obtain ⟨h1,h2,h3⟩:=Y1 (σ:=σ) (1000+p) gs s h
    exact ⟨h1,h2,⟨gs,rfl,h3⟩,fun e l f he=>by cases he⟩
   | false=>exact ⟨h,fun q hq=>hq,⟨gs,rfl,fun t ht=>by cases ht⟩,fun e l f he=>by cases he⟩
  | arr e l f=>exact ⟨h,fun q hq=>hq,rfl,fun e l f he=>he⟩
  | val v=>
   cases v with
   | fn f caps=>
    cases caps with
    | nil=>exact ⟨h,fun q hq=>hq,⟨rfl,f,rfl⟩,fun e l f he=>by cases he⟩
    | cons _ _=>exact ⟨h,fun q hq=>hq,trivial,fun e l f he=>by cases he⟩
   | _=>exact ⟨h,fun q hq=>hq,trivial,fun e l f he=>by cases he⟩
theorem qR (cs:List (Nat×Bool)):∀ (ks:List (Nat×Bool)) (s:List (Nat×Nat)),Names s→Names (Mf cs σ ks s).2∧(∀ q∈s,q∈(Mf cs σ ks s).2)∧
  ∀ i,O5 cs σ (Mf cs σ ks s).2 (σ.t i) (MC (Mf cs σ ks s).1 i)
 | [],s,h=>⟨h,fun q hq=>hq,fun i=>trivial⟩
 | (k,b) :: r,s,h=>by
  unfold Mf
  obtain ⟨h1,h2,h3⟩:=Zj6 (σ:=σ) cs k b s (σ.t k) h
  obtain ⟨h4,h5,h6⟩:=qR cs r _ h1
  refine ⟨h4,fun q hq=>h5 q (h2 q hq),fun i=>?_⟩
  simp only [MC]
  cases hb:Nat.beq i k with
  | true=>
   have:=Nat.eq_of_beq_eq_true hb
   subst this
   exact h3.mono h5
  | false=>exact h6 i
theorem qS:∀ (ks:List (Nat×Bool)) (s:List (Nat×Nat)),Names s→Names (Mg σ ks s).2∧(∀ q∈s,q∈(Mg σ ks s).2)∧
  (∀ i,TH σ (Mg σ ks s).2 (σ.c i) (IZ (Mg σ ks s).1 i))∧(∀ i,(ks.any fun z=>Nat.beq z.1 i)=true→∀ e l f,σ.c i=some (.arr e l f)→IZ (Mg σ ks s).1 i=some (.arr e l f))∧
  (∀ i c,IZ (Mg σ ks s).1 i=some c→(ks.any fun z=>Nat.beq z.1 i)=true)
 | [],s,h=>⟨h,fun q hq=>hq,fun i=>trivial,fun i hi=>by simp at hi,fun i c hc=>by simp [Mg,IZ] at hc⟩
 | (k,b) :: r,s,h=>by
  unfold Mg
  obtain ⟨h1,h2,h3,Nj⟩:=Zk6 (σ:=σ) k b s (σ.c k) h
  obtain ⟨h4,h5,h6,h7,h8⟩:=qS r _ h1
  refine ⟨h4,fun q hq=>h5 q (h2 q hq),fun i=>?_,fun i hi e l f hc=>?_,fun i c hc=>?_⟩
  ·simp only [IZ]
   cases hb:Nat.beq i k with
   | true=>
    have:=Nat.eq_of_beq_eq_true hb
    subst this
    exact h3.mono h5
   | false=>exact h6 i
  ·simp only [IZ]
   cases hb:Nat.beq i k with
   | true=>
    have:=Nat.eq_of_beq_eq_true hb
    subst this
    exact Nj e l f hc
   | false=>
    refine h7 i ?_ e l f hc
    simp only [List.any_cons] at hi
    rcases Bool.or_eq_true _ _ ▸ hi with hk | hk
    ·have:=Nat.eq_of_beq_eq_true hk;subst this;simp at hb
    ·exact hk
  ·simp only [IZ] at hc
   simp only [List.any_cons]
   cases hb:Nat.beq i k with
   | true=>have:=Nat.eq_of_beq_eq_true hb;subst this;simp
   | false=>rw [hb] at hc;rw [h8 i c hc];simp
theorem Inv.norm (h:Inv B ok0 w0 g σ a w) (kp:Keep):∃ g',Inv B ok0 w0 g' (AM.norm kp σ) a w:=by
  obtain ⟨h1,h2,h3⟩:=qR (σ:=σ) kp.c kp.t [] trivial
  obtain ⟨h4,h5,h6,h7,h8⟩:=qS (σ:=σ) kp.c (Mf kp.c σ kp.t []).2 h1
  have Nj:=fun i=>(h3 i).mono h5
  generalize hs:(Mg σ kp.c (Mf kp.c σ kp.t []).2).2=s at *
  let kept:Nat→Bool:=fun i=>kp.c.any fun z=>Nat.beq z.1 i
  -- the new names' rows
  let Q6:Nat→Option (Nat×Nat):=fun n=>match s.find? (fun p=>Nat.beq p.1 n) with
    | some p=>if p.2=0 then none else g.rw p.2
    | none=>none
  have ER:∀ n x,(n,x)∈s→x≠0→Q6 n=g.rw x:=by
    intro n x hm hx
    simp only [Q6]
    cases hf:s.find? (fun p=>Nat.beq p.1 n) with
    | none=>have:=List.find?_eq_none.1 hf _ hm;simp at this
    | some p=>
      have hp:=List.mem_of_find?_eq_some hf
      have nA:p.1=n:=by
        have h9:(fun q:Nat×Nat=>Nat.beq q.1 n) p=true:=List.find?_some (p:=fun q:Nat×Nat=>Nat.beq q.1 n) hf
        exact Nat.eq_of_beq_eq_true h9
      have:(n,p.2)∈s:=by rw [← nA];exact hp
      have:=h4.fn hm this
      simp only
      rw [← this,if_neg hx]
  have cg:∀ n r,Q6 n=some r→∃ x,x≠0∧(n,x)∈s∧g.rw x=some r:=by
    intro n r hr
    simp only [Q6] at hr
    split at hr
    · rename_i p hf
      have hp:=List.mem_of_find?_eq_some hf
      have nA:p.1=n:=by
        have h9:(fun q:Nat×Nat=>Nat.beq q.1 n) p=true:=List.find?_some (p:=fun q:Nat×Nat=>Nat.beq q.1 n) hf
        exact Nat.eq_of_beq_eq_true h9
      split at hr
      · cases hr
      · rename_i h0;exact ⟨p.2,h0,by rw [← nA];exact hp,hr⟩
    · cases hr
  refine ⟨⟨fun id=>if kept id=true then g.bx id else none,Q6⟩,?_⟩
  have Db:∀ id r,(if kept id=true then g.bx id else none)=some r→g.bx id=some r:=by
    intro id r hr;split at hr
    · exact hr
    · cases hr
  have BE:∀ b off,okG B ok0 g w b off→okG B ok0 ⟨fun id=>if kept id=true then g.bx id else none,Q6⟩ w b off:=by
    intro b off hk
    rcases hk with hk | ⟨q1,q2,q3,q4⟩
    · exact .inl hk
    · refine .inr ⟨q1,q2,fun id he=>q3 id (Db id _ he),fun id u he=>?_⟩
      obtain ⟨x,_,_,hx⟩:=cg id _ he
      exact q4 x u hx
  have bw:∀ (gs Hr:List Tag) (cs:List Value),RW σ s gs Hr→Hg g σ.r w gs cs→Hg ⟨fun id=>if kept id=true then g.bx id else none,Q6⟩ (fun _=>0) w Hr cs:=by
    intro gs Hr cs hn ht t' GV
    obtain ⟨t,q1,q2,q3,q4,q5,q6,q7⟩:=hn t' GV
    obtain ⟨k1,k2⟩:=ht t q1
    refine ⟨fun h0=>absurd h0 q5,fun _=>⟨by omega,fun _=>?_⟩⟩
    rw [q2]
    by_cases h0:t.id=0
    · exact .inl (k1 h0)
    · rcases (k2 h0).2 (q7.resolve_left h0) with hv | ⟨b,n,cap,cur,T,hv,hr,rest⟩
      · exact .inl hv
      · refine .inr ⟨b,n,cap,cur,T,hv,?_,by rw [q3];exact rest⟩
        show Q6 t'.id=_
        rw [ER _ _ q6 h0,q3]
        exact hr
  have bD:∀ id ver,Jf kp.c σ id ver=true→σ.v id=ver∧kept id=true:=by
    intro id ver hk
    unfold Jf at hk
    rw [Bool.and_eq_true] at hk
    exact ⟨Nat.eq_of_beq_eq_true hk.1,hk.2⟩
  exact {
    below:=h.below,hB:=h.hB,h0:=h.h0,hR:=h.hR,defers:=h.defers,lay:=h.lay,tm:=h.tm,nm:=fun id b f hi he=>h.nm id b f hi (Db id _ he)
    bb:=fun id b f he=>h.bb id b f (Db id _ he)
    bi:=fun i1 i2 b f f' e1 e2=>h.bi i1 i2 b f f' (Db i1 _ e1) (Db i2 _ e2)
    rb:=fun id b u he=>by
      obtain ⟨x,_,_,hx⟩:=cg id _ he
      obtain ⟨q1,q2,q3⟩:=h.rb x b u hx
      exact ⟨q1,q2,fun id' f hf=>q3 id' f (Db id' _ hf)⟩
    ri:=fun i1 i2 b u u' e1 e2=>by
      obtain ⟨x,EB,Ha,H9⟩:=cg i1 _ e1
      obtain ⟨y,MB,Ut,nc⟩:=cg i2 _ e2
      have:=h.ri x y b u u' H9 nc
      subst this
      exact h4.inj Ha Ut EB
    con:=fun id c hc=>by
      have CP:IZ (Mg σ kp.c (Mf kp.c σ kp.t []).2).1 id=some c:=hc
      have hk:=h8 id c CP
      have hn:=h6 id
      rw [CP] at hn
      have ch:kept id=true:=hk
      cases c with
      | var t x Hr=>
        obtain ⟨gs,XG,nB⟩:=hn
        obtain ⟨b,f,hb,hf,cs,T,hh,hr,Oo,ht⟩:=h.mg XG (fun _ _ _ he=>by cases he)
        exact .inr ⟨b,f,by simp only [ch,if_true];exact hb,hf,cs,T,hh,hr.mono (fun b o hk=>⟨BE b o hk,rfl⟩),Oo,bw gs Hr cs nB ht⟩
      | arr e l fz=>
        rcases h.con id _ hn with ⟨Lh,Kg⟩ | ⟨b,f,hb,hf,cur,T,ym,hh,Il,Bu,hm,BO⟩
        · exact .inl ⟨by simp only [ch,if_true];exact Lh,Kg⟩
        refine .inr ⟨b,f,by simp only [ch,if_true];exact hb,hf,cur,T,ym,hh,Il,Bu,hm,fun i x hi=>?_⟩
        obtain ⟨ys,hy,hc⟩:=BO i x hi
        exact ⟨ys,hy.mono (fun b o hk=>⟨BE b o hk,rfl⟩),hc⟩
      | val v=>
        obtain ⟨XG,f,hv⟩:=hn
        subst hv
        obtain ⟨b,ff,hb,hf,u,T,hh,hr⟩:=h.mg XG (fun _ _ _ he=>by cases he)
        obtain ⟨vs,Lp,JN⟩:=hr
        cases vs with
        | nil=>exact .inr ⟨b,ff,by simp only [ch,if_true];exact hb,hf,u,T,hh,[],Lp,trivial⟩
        | cons _ _=>exact JN.elim
    slots:=fun t=>by
      show RepA _ _ _ w (MC (Mf kp.c σ kp.t []).1 t) _
      have hn:=Nj t
      have hr:=h.slots t
      revert hn
      cases MC (Mf kp.c σ kp.t []).1 t with
      | undef=>intro _;trivial
      | none=>intro hn;rw [(hn:σ.t t = .none)] at hr;exact hr
      | nils=>intro hn;rw [(hn:σ.t t = .nils)] at hr;exact hr
      | dat ty x Hr=>
        intro hn
        obtain ⟨gs,XG,nB⟩:=hn
        rw [XG] at hr
        obtain ⟨cs,r1,r2,r3⟩:=hr
        exact ⟨cs,r1.mono (fun b o hk=>⟨BE b o hk,rfl⟩),r2,bw gs Hr cs nB r3⟩
      | ptr id ver off=>
        intro hn
        obtain ⟨rfl,v,hv,hk⟩:=hn
        rw [hv] at hr
        obtain ⟨k1,k2⟩:=bD id v hk
        obtain ⟨b,f,hb,hp⟩:=hr.2 k1
        exact ⟨Ah _,fun _=>⟨b,f,by simp only [k2,if_true];exact hb,hp⟩⟩
      | slw id ver=>
        intro hn
        obtain ⟨rfl,v,hv,hk⟩:=hn
        rw [hv] at hr
        obtain ⟨k1,k2⟩:=bD id v hk
        obtain ⟨e,l,fz,hc,hp⟩:=hr.2 k1
        refine ⟨Ah _,fun _=>⟨e,l,fz,h7 id k2 e l fz hc,?_⟩⟩
        unfold N4
        simp only [k2,if_true]
        exact hp
      | slm id ver lo n=>
        intro hn
        obtain ⟨rfl,v,hv,hk⟩:=hn
        rw [hv] at hr
        obtain ⟨k1,k2⟩:=bD id v hk
        obtain ⟨e,l,fz,A,cap,hc,rest⟩:=hr.2 k1
        refine ⟨Ah _,fun _=>⟨e,l,fz,A,cap,h7 id k2 e l fz hc,?_⟩⟩
        simp only [k2,if_true]
        exact rest
      | clo f qs=>
        intro hn
        obtain ⟨ps,hv,rfl,hk⟩:=hn
        rw [hv] at hr
        obtain ⟨vs,Lp,JN⟩:=hr
        refine ⟨vs,Lp,?_⟩
        clear Lp hv
        induction ps generalizing vs with
        | nil=>cases vs with
          | nil=>trivial
          | cons _ _=>exact JN.elim
        | cons p ps ih=>cases vs with
          | nil=>exact JN.elim
          | cons u vs=>
            rw [List.all_cons,Bool.and_eq_true] at hk
            obtain ⟨k1,k2⟩:=bD p.1 p.2 hk.1
            refine ⟨⟨Ah _,fun _=>?_⟩,ih hk.2 vs JN.2⟩
            obtain ⟨b,f,hb,hp⟩:=JN.1.2 k1
            exact ⟨b,f,by simp only [k2,if_true];exact hb,hp⟩
      | iov ty x=>intro hn;exact hn.elim
      | ioa e l=>intro hn;exact hn.elim
      | bxv e l=>intro hn;exact hn.elim
      | slp k n=>intro hn;exact hn.elim
      | fn f caps=>
        intro hn
        rw [(hn:σ.t t = .fn f caps)] at hr
        obtain ⟨vs,Lp,JN⟩:=hr
        exact ⟨vs,Lp,JN.imp fun _ _ hp=>hp.mono BE⟩
      | aptr id ver i off=>intro hn;exact hn.elim
      | ept ty x off=>
        intro hn
        rw [(hn:σ.t t = .ept ty x off)] at hr
        exact IQ.mono BE hr
      | tup ds=>intro hn;exact hn.elim }
end
end Go.AM
end
