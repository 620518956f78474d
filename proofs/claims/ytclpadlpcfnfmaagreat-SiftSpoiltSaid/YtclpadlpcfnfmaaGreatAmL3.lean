import Derived.Test.YtclpadlpcfnfmaaGreatAmL2
import Derived.Lib.ConvBytes
section
/- Appends: in place, or into a new row; strings as bytes. -/
namespace Go.AM
open Go.RowKit (Below)
set_option linter.unusedSectionVars false
variable [Lay]
section
variable {P : Program} {B : Bd} {ok0 : Nat -> Nat -> Prop} {w0 w w' : World} {g g' : G} {σ σ1 : St} {a : Act} {o : Oper} {E : Env}
theorem gX {T U ty ET:TypeId} {ie:TypeInfo} {z:Value} {sz by_:Nat} (ht:P.underlying T=some (.slice ET)) (hi:P.info? ET=some ie) (hz:ie.zero=some z) (BL:ie.size=sz) (Ii:ie.bytes=by_)
  (hu:(∃ EU,P.underlying U=some (.slice EU))\/P.underlying U=some .string)
  {p:Option Addr} {n cap m:Nat} {x:Value} {olds news:List Value} (hlen:∀ w,(Builtin.lenOf x).run P w = .ok m w)
  (hx:∀ w',w'.heap=w.heap->(Builtin.firstCells sz m x).run P w' = .ok news.toArray w') (Hs:news.length=m*sz) (h1:∀ u∈news,u.oneCell'=true)
  (hp:(p=none/\n=0/\cap=0/\olds=[])\/∃ b cur TT y,p=some ⟨b,0,none⟩/\w.heap[b]? = some (.cells cur TT y)/\(y=(0,0)\/cur.size<=y.1)/\cur.size=cap*sz/\n<=cap/\olds=cur.toList.take (n*sz))
  (Gb:(n+m)*by_<=140737488355328) (NI:0<by_):
  (∃ b cur TT y,p=some ⟨b,0,none⟩/\w.heap[b]? = some (.cells cur TT y)/\n+m<=cap/\
   (Builtin.append_ #[T,U] ty #[.slice p n cap,x]).run P w = .ok (.slice p (n+m) cap) (w.setRow b (D7 cur.toList (n*sz) news).toArray))\/
  (p=none/\m=0/\(Builtin.append_ #[T,U] ty #[.slice p n cap,x]).run P w = .ok (.slice none 0 0) w)\/
  (∃ MR,n+m<=MR/\MR<=maxLen/\(Builtin.append_ #[T,U] ty #[.slice p n cap,x]).run P w =
   .ok (.slice (some ⟨w.heap.size,0,none⟩) (n+m) MR) (w.drew.alloc (.cells (olds.toArray++news.toArray++Builtin.zeroCells z.cells (MR-(n+m))) ET))):=by
 have hle:n+m<=140737488355328:=Nat.le_trans (Nat.le_mul_of_pos_right _ NI) Gb;have Ds:n+m<=maxLen:=by unfold maxLen;omega
 by_cases Xj:n+m<=cap
 ·rcases hp with ⟨rfl,rfl,rfl,rfl⟩ | ⟨b,cur,TT,y,rfl,hh,VY,CM,qK,rfl⟩
  ·have hm:m=0:=Ad
   subst hm;refine .inr (.inl ⟨rfl,rfl,?_⟩);have Du:news=[]:=by simp_all
   subst Du;have D2:=hx w rfl;rcases hu with ⟨EU,hu⟩ | hu <;>
    simp [Builtin.append_,run_underlying ht,run_underlying hu,sizeOf,typeInfo,hi,BL,hlen,D2]
  ·refine .inl ⟨b,cur,TT,y,rfl,hh,Xj,?_⟩;have D2:=hx w rfl;have Fy:=Zl P b (n*sz) TT y news 0 cur w hh VY (by rw [Nat.add_zero,Hs,CM,<- Nat.add_mul];exact AT _ Xj) h1;simp only [Nat.add_zero] at Fy;have JA:(⟨b,0,none⟩:Addr).add (n*sz)=⟨b,n*sz,none⟩:=by rw [IN ⟨b,0,none⟩ rfl];simp
   rcases hu with ⟨EU,hu⟩ | hu <;>
    simp [Builtin.append_,run_underlying ht,run_underlying hu,sizeOf,typeInfo,hi,BL,hlen,Xj,D2,JA,Fy,D7]
 ·have AY:cap<n+m:=Ad
  have Kf:=grownCap_ge w (n+m) cap ET;have T0:=grownCap_le_maxLen w (n+m) cap ET Ds;refine .inr (.inr ⟨grownCap w (n+m) cap ET,Kf,T0,?_⟩);have VK:¬ (9223372036854775807<((n:Int)+(m:Int))):=Ad
  have Ei:=growslice_fits (bytes:=by_) AY Gb;have h48:¬ (281474976710656<Builtin.nextslicecap (n+m) cap*by_):=by omega
  have D2:=hx w.drew rfl;have hold:(Builtin.firstCells sz n (.slice p n cap)).run P w.drew = .ok olds.toArray w.drew:=by
   rcases hp with ⟨rfl,rfl,rfl,rfl⟩ | ⟨b,cur,TT,y,rfl,hh,VY,CM,qK,rfl⟩
   ·rfl
   ·refine run_firstCells_some (P:=P) w.drew sz n ⟨b,0,none⟩ n cap _ ?_ λ j u hj=>?_
    ·simp_all
    ·rw [IN ⟨b,0,none⟩ rfl];rw [AQ] at hj;split at hj
     ·simp only [World.cell?,AF];rw [show w.drew.heap=w.heap from rfl,hh];simp_all
     simp_all
  rcases hu with ⟨EU,hu⟩ | hu
  ·simp [Builtin.append_,run_underlying ht,run_underlying hu,sizeOf,typeInfo,zeroValue,hi,hz,BL,Ii,hlen,Xj,VK,h48,Question.forced,hold,D2,newRow,grownCap]
   grind
  ·simp [Builtin.append_,run_underlying ht,run_underlying hu,sizeOf,typeInfo,zeroValue,hi,hz,BL,Ii,hlen,Xj,VK,h48,Question.forced,hold,D2,newRow,grownCap]
   grind
theorem Jr.append {ok:Nat->Nat->Prop} {e:Ty} {l1 l2:List e.D} {c1 c2:List Value} (h1:Jr ok w e l1 c1) (h2:Jr ok w e l2 c2):Jr ok w e (l1++l2) (c1++c2):=by
 refine ⟨by rw [Ap,Ap,h1.1,h2.1,Nat.add_mul],λ i x hi=>?_⟩;by_cases AY:i<l1.length
 ·rw [AR AY] at hi;obtain ⟨ys,hy,hc⟩:=h1.2 i x hi
  grind
 ·rw [AJ Ad] at hi;obtain ⟨ys,hy,hc⟩:=h2.2 _ x hi;refine ⟨ys,hy,λ j u hj=>?_⟩;have h3:=hc j u hj;have hle:l1.length*e.sz<=i*e.sz:=AT _ Ad;rw [AJ (by rw [h1.1];omega),h1.1,show i*e.sz+j-l1.length*e.sz=(i-l1.length)*e.sz+j by rw [Nat.sub_mul];omega]
  grind
theorem Inv.Zq4 (h:Inv B ok0 w0 g σ a w) {id b n m cap:Nat} {e:Ty} {l l':List e.D} {news:List Value} {cur:Array Value} {TT:TypeId} (GK:g.rw id=some (b,n*e.sz))
    (hh:w.heap[b]? = some (.cells cur TT (0,0))) (BL:cur.size=cap*e.sz) (Gb:n+m<=cap) (KP:cap<=maxLen) (hid:id≠0) (hl:RepD (okG B ok0 g w) w (.sl e) l [.slice (some ⟨b,0,none⟩) n cap])
    (Im:Jr (okG B ok0 g w) w e l' news) (hm:l'.length=m) (qL:e.sg=0->TT=Lay.byt):
    ∃ g',Inv B ok0 w0 g' (σ.C8 id) a (w.setRow b (D7 cur.toList (n*e.sz) news).toArray)/\
      RepA (okG B ok0 g' (w.setRow b (D7 cur.toList (n*e.sz) news).toArray)) g' (σ.C8 id) (w.setRow b (D7 cur.toList (n*e.sz) news).toArray)
        (.dat (.sl e) (l++l') [⟨0,id,σ.r id+1,e.sg⟩]) (.slice (some ⟨b,0,none⟩) (n+m) cap):=by
  obtain ⟨Kn,Ey,FY⟩:=h.rb id b _ GK;have Hs:news.length=m*e.sz:=by rw [Im.1,hm]
  have Ei:n*e.sz+news.length<=cur.toList.length:=by
    rw [Hs,Array.length_toList,BL,<- Nat.add_mul];exact AT _ Gb
  generalize hw':w.setRow b (D7 cur.toList (n*e.sz) news).toArray=w';have Zfo:w'.heap.size=w.heap.size:=by rw [<- hw'];simp
  have Zhh:∀ k,k≠b->w'.heap[k]? = w.heap[k]?:=λ k hk=>by rw [<- hw'];exact setRow_other w b k _ hk
  have Kb:w'.heap[b]? = some (.cells (D7 cur.toList (n*e.sz) news).toArray TT (0,0)):=by rw [<- hw'];exact setRow_heap w b _ _ _ _ hh
  have D0:∀ b' off,okG B ok0 g w b' off->w'.cell? ⟨b',off,none⟩=w.cell? ⟨b',off,none⟩:=by
    intro b' off hk;by_cases FW:b'=b
    · subst FW;have AY:off<n*e.sz:=by
        rcases hk with hk | ⟨_,_,_,q4⟩
        · obtain ⟨q1,_,q3⟩:=h.h0 _ _ hk
          grind
        grind
      simp only [World.cell?,Kb,hh];unfold D7
      grind
    · simp only [World.cell?,Zhh b' FW]
  have hx:Ext (okG B ok0 g w) (okG B ok0 (g.Lt id (some (b,(n+m)*e.sz))) w') g (g.Lt id (some (b,(n+m)*e.sz))) σ (σ.C8 id) w w':=
    { cell := λ b' off hk => by
        refine ⟨?_,D0 b' off hk⟩;rcases hk with hk | ⟨q1,q2,q3,q4⟩
        · exact .inl hk
        · refine .inr ⟨q1,Ad,q3,λ id' u he=>?_⟩;simp only [G.Lt,B5] at he
          grind
      box:=λ id' ver hv=>⟨hv,λ he=>⟨he,λ b' f hb=>⟨f,hb⟩,λ e' l2 fz hc=>⟨l2,fz,hc,rfl⟩,λ hn=>hn,(by grind)⟩⟩
      row:=λ id' ver h0 hv=>by
        simp only [St.C8,B5,G.Lt];by_cases hi:id'=id
        · grind
        · simp only [if_neg hi]
          exact ⟨hv,λ he=>⟨he,λ b' u QS=>⟨QS,Zhh b' (λ e=>by subst e;exact hi (h.ri _ _ _ _ _ QS GK))⟩⟩⟩ }
  refine ⟨g.Lt id (some (b,(n+m)*e.sz)),?_,?_⟩
  · exact {
      below:=by
        rw [<- hw'];refine rV (by grind) (λ u cur' T y hq AY Fz=>?_) (λ _ cur' T y Fz=>by rw [hh] at Fz;cases Fz;rw [List.size_toArray,Ll Ei,Array.length_toList]) h.below;rw [hh] at Fz;cases Fz;refine ⟨by rw [List.size_toArray,Ll Ei,Array.length_toList],λ o ho=>?_⟩;have hu:u<=n*e.sz:=by
          rcases Kn with hB | ⟨u0,hB,hle⟩
          · omega
          · rw [<- (h.hR b u0 hB).2.2 u hq] at hle;omega
        rw [List.getElem?_toArray,gY Ei Ad,Array.getElem?_toList]
      hB:=h.hB,h0:=h.h0,hR:=h.hR,defers:=h.defers,lay:=h.lay,tm:=h.tm,nm:=h.nm
      bb:=λ id' b' f hb=>by rw [Zfo];exact h.bb id' b' f hb
      bi:=h.bi
      rb:=λ id' b' u hb=>by
        simp only [G.Lt,B5] at hb;split at hb
        · cases hb;exact ⟨by grind,Ad,FY⟩
        · rw [Zfo];exact h.rb id' b' u hb
      ri:=λ i1 i2 b' u1 u2 e1 e2=>by
        simp only [G.Lt,B5] at e1 e2;split at e1 <;> split at e2
        · omega
        · cases e1;rename_i q1 q2;rw [q1];exact (h.ri _ _ _ _ _ e2 GK).symm
        · cases e2;rename_i q1 q2;rw [q2];exact h.ri _ _ _ _ _ e1 GK
        · exact h.ri _ _ _ _ _ e1 e2
      con:=λ id' c hc=>by
        rcases h.con id' c hc with hn | ⟨b',f,hb,hk⟩
        · exact .inl hn
        exact .inr ⟨b',f,hb,hk.ext hx (by grind)⟩
      slots:=λ t=>(h.slots t).ext hx }
  · obtain ⟨p',n',Dr,hv,DG,hn,MY,hc⟩:=hl;cases hv;refine ⟨_,⟨_,_,_,rfl,by simp_all,Gb,KP,λ i x hi=>?_⟩,rfl,λ t ht=>?_⟩
    · by_cases AY:i<l.length
      · rw [AR AY] at hi;obtain ⟨A,hA,hs,ys,hy,CU⟩:=hc i x hi;refine ⟨A,hA,hs,ys,hy.mono hx.cell,λ j u hj=>?_⟩;obtain ⟨h1,h2⟩:=CU j u hj;exact ⟨(hx.cell _ _ h1).1,(by simp_all)⟩
      · rw [AJ Ad] at hi;obtain ⟨ys,hy,CU⟩:=Im.2 _ x hi;refine ⟨_,rfl,rfl,ys,hy.mono hx.cell,λ j u hj=>?_⟩;have h1:=CU j u hj;have h2:=(List.getElem?_eq_some_iff.1 h1).1;have hle:n*e.sz<=i*e.sz:=AT _ Ad;rw [DG] at h1 h2;rw [Nat.sub_mul] at h1 h2;refine ⟨.inr ⟨by rcases Kn with hB | ⟨u0,hB,_⟩;exact .inl hB;exact .inr ⟨u0,hB⟩,by simp_all,λ id'=>FY id' false,λ id' u' he=>?_⟩,?_⟩
        · simp only [G.Lt,B5] at he;split at he
          · grind
          · rename_i Cg;exact absurd (h.ri _ _ _ _ _ he GK) Cg
        · simp only [World.cell?,Kb,AF];unfold D7;simp only [Option.isSome_none,Bool.false_eq_true,if_false,List.getElem?_toArray];rw [AA,AJ (by rw [Ar];omega),AR (by rw [Ar];omega),<- h1]
          grind
    · have LM:t=⟨0,id,σ.r id+1,e.sg⟩:=by simp_all
      subst LM;refine ⟨(by simp_all),λ _=>⟨by simp [St.C8,B5],λ _=> .inr ⟨b,n+m,cap,_,TT,rfl,by simp [G.Lt,B5,W4],Kb,?_,Gb,KP,qL⟩⟩⟩;show _=cap*Pj e.sg;rw [W4,List.size_toArray,Ll Ei,Array.length_toList,BL]
theorem sT {d sz id:Nat}:∀ {gs:List Tag},L1 σ d sz gs=some id->∃ τ∈gs,τ.off=0/\τ.sz=sz/\((τ.id=0/\id=CK d 0)\/(τ.id≠0/\σ.r τ.id = τ.ver/\id = τ.id))
 | [],h=>by cases h
 | t :: ts,h=>by
  unfold L1 at h;split at h
  ·grind
  ·obtain ⟨τ,hm,hr⟩:=sT h
   grind
theorem sR (hE:EnvOk P E) (hI:Inv B ok0 w0 g σ a w) (hd:∀ d,o.dst=some d->d<a.tmps.size) {T U ET:TypeId} {ie:TypeInfo} {c:Call} (ho:o.op = .call c) (hc:c.callee = .builtin .append) {s x:Operand}
  (ha:c.args.toList=[s,x]) (Il:c.argTypes.toList=[T,U]) {e:Ty} (hT:E.ty T=some (.sl e)) (hu:P.underlying T=some (.slice ET)) (EX:P.info? ET=some ie)
  (hU:(∃ EU,P.underlying U=some (.slice EU))\/P.underlying U=some .string)
  {l:List e.D} (hl:(Bm σ s).as (.sl e)=some l) {d id:Nat} (hid:L1 σ d e.sg ((Bm σ s).tags (.sl e))=some id) {l':List e.D} {news:List Value} {m:Nat} (Fg:Jr (okG B ok0 g w) w e l' news) (hm:l'.length=m)
  (hlen:∀ w,(Builtin.lenOf (a.eval x)).run P w = .ok m w) (hx:∀ w',w'.heap=w.heap->(Builtin.firstCells e.sz m (a.eval x)).run P w' = .ok news.toArray w') (h1:∀ u∈news,u.oneCell'=true):
  DZ P B ok0 w0 (.go (B1 (l.length+m) (E.by_ T)) ((σ.C8 id).Ce o.dst (.dat (.sl e) (l++l') [⟨0,id,σ.r id+1,e.sg⟩]))) o a w:=by
 have Mo:c.args = #[s,x]:=by grind
 have QG:c.argTypes = #[T,U]:=by grind
 obtain ⟨ET',ie',hu',Zuq,BL,hz,_⟩:=(hE.ty T _ hT).und;rw [hu] at hu';cases hu';rw [EX] at Zuq;cases Zuq;obtain ⟨Ii,V0⟩:=hE.by_ T e ET ie hT hu EX;obtain ⟨τ,hτ,YM,hτs,hτid⟩:=sT hid;obtain ⟨cs,FL,hv,dD⟩:=Te hl (EM hI s);have Xhe:=FL;obtain ⟨p,n,cap,rfl,DG,hn,KP,CN⟩:=FL;have M1:a.eval s = .slice p n cap:=hv;have Zvq:id≠0:=by
  rcases hτid with ⟨_,rfl⟩ | ⟨h,_,rfl⟩
  ·exact UY d 0
  omega
 have E2:(p=none/\n=0/\cap=0)\/∃ b cur TT,p=some ⟨b,0,none⟩/\g.rw id=some (b,n*e.sz)/\w.heap[b]? = some (.cells cur TT (0,0))/\cur.size=cap*e.sz/\(e.sg=0->TT=Lay.byt):=by
  obtain ⟨q1,q2⟩:=dD τ hτ;rw [YM] at q1 q2;rcases hτid with ⟨h0,_⟩ | ⟨h0,hr,rfl⟩
  ·grind
  ·rcases (q2 h0).2 hr with hv | ⟨b,n',Dr,cur,TT,hv,GK,hh,CM,_,_,qM⟩
   ·grind
   ·simp at hv;obtain ⟨rfl,rfl,rfl⟩:=hv;rw [hτs] at GK CM qM;rw [W4] at GK CM
    grind
 refine go_ok hd λ pU=>?_
 have Gb:(n+m)*E.by_ T<=140737488355328:=by rw [<- DG];exact Az pU
 have Jk:(valOf e e.zcells).cells.size=e.sz:=by
  rw [OJ (Iy (λ _ _=>True) w e),List.size_toArray,(Iy (λ _ _=>True) w e).len]
 have B8:∀ v w',(Builtin.append_ #[T,U] o.type #[.slice p n cap,a.eval x]).run P w = .ok v w'->(execOp a.eval o).run P w = .ok (.value v) w':=by
  intro v w' IT;unfold execOp;rw [ho];simp [resolve,hc,Mo,QG,invoke,builtin,M1,IT]
 have holds:∃ olds,((p=none/\n=0/\cap=0/\olds=[])\/∃ b cur TT y,p=some ⟨b,0,none⟩/\w.heap[b]? = some (.cells cur TT y)/\(y=(0,0)\/cur.size<=y.1)/\cur.size=cap*e.sz/\n<=cap/\olds=cur.toList.take (n*e.sz))/\
   Jr (okG B ok0 g w) w e l olds:=by
  rcases E2 with ⟨rfl,rfl,rfl⟩ | ⟨b,cur,TT,rfl,GK,hh,CM,_⟩
  ·have:l=[]:=by grind
   subst this;exact ⟨[],Ah,⟨Ah,λ i x hi=>by simp at hi⟩⟩
  ·refine ⟨_, .inr ⟨b,cur,TT,_,rfl,hh, .inl rfl,CM,hn,rfl⟩,⟨?_,λ i x hi=>?_⟩⟩
   ·rw [Ar,DG,Array.length_toList,CM];have:n*e.sz<=cap*e.sz:=AT _ hn;omega
   ·obtain ⟨A,hA,hs,ys,hy,CU⟩:=CN i x hi;cases hA;refine ⟨ys,hy,λ j u hj=>?_⟩;obtain ⟨k1,k2⟩:=CU j u hj;simp only [World.cell?,hh,AF] at k2;have AY:i*e.sz+j<n*e.sz:=by
     have:=(List.getElem?_eq_some_iff.1 hj).1;rw [hy.len] at this;have Dc:=(List.getElem?_eq_some_iff.1 hi).1;have:(i+1)*e.sz<=n*e.sz:=AT _ Ad
     grind
    grind
 obtain ⟨olds,hpo,DF⟩:=holds;have Hs:news.length=m*e.sz:=by rw [Fg.1,hm]
 rcases gX (P:=P) (ty:=o.type) hu EX hz BL Ii hU hlen hx Hs h1 hpo Gb V0 with ⟨b,cur,TT,ym,rfl,hh,qN,hr⟩ | ⟨rfl,rfl,hr⟩ | ⟨MR,Kf,T0,hr⟩
 ·rcases E2 with ⟨hp,_⟩ | ⟨b',cur',TT',hp,GK,Fz,CM,qM⟩
  ·grind
  ·cases hp;rw [hh] at Fz;cases Fz;obtain ⟨g',CG,hR⟩:=hI.Zq4 GK hh CM qN KP Zvq Xhe Fg hm qM
   grind
 ·-- nothing behind nothing
  have Du:n=0/\cap=0:=by
   grind
  obtain ⟨rfl,rfl⟩:=Du;have Li:l=[]:=by grind
  have Xqh:l'=[]:=by grind
  subst Li;subst Xqh;obtain ⟨CG,D2⟩:=hI.yY (Below.refl w.heap.size w) (ρ:=λ i=>if i=id then some none else none) (σ':=σ.C8 id) (g':=g.Lt id none)
   (by unfold G.Lt;congr 1;funext i;rw [B5];grind)
   (by unfold St.C8;congr 1;funext i;rw [B5];grind)
   Ah
   Ah
  refine ⟨_,_,_,B8 _ _ hr,CG,[.slice none 0 0],⟨none,0,0,rfl,rfl,Au _,Nat.zero_le _,λ i x hi=>by simp at hi⟩,rfl,λ t ht=>?_⟩;have LM:t=⟨0,id,σ.r id+1,e.sg⟩:=by grind
  subst LM;exact ⟨Ah,λ _=>⟨by simp [St.C8,B5],λ _=> .inl rfl⟩⟩
 ·obtain ⟨g',CG,hR⟩:=jS hI (w':=w.drew.alloc (.cells (olds.toArray++news.toArray++Builtin.zeroCells (valOf e e.zcells).cells (MR-(n+m))) ET)) (nb:=w.heap.size) (id:=id) (n:=n+m) (cap:=MR)
   ((gZ w).trans (M5 w.drew _)) (Au _) (KV w.drew _) (DF.append Fg) (by grind) (by grind)
   (by
    rw [Array.size_append,Array.size_append,List.size_toArray,List.size_toArray,size_zeroCells,Jk,DF.1,DG,Hs,<- Nat.add_mul,<- Nat.add_mul]
    grind) Kf T0 Zvq (hE.qO hT hu)
  grind
theorem Zd0 (hE:EnvOk P E) (hI:Inv B ok0 w0 g σ a w) (hd:∀ d,o.dst=some d->d<a.tmps.size) {T U:TypeId} {c:Call} (ho:o.op = .call c) (hc:c.callee = .builtin .append) {s x:Operand}
  (ha:c.args.toList=[s,x]) (Il:c.argTypes.toList=[T,U]) {id ver:Nat} (hs:Bm σ s = .slw id ver):DZ P B ok0 w0 (P7 E T U o σ id ver (Bm σ x)) o a w:=by
 unfold P7;split
 ·rename_i d e e' l Hq hT Ny;split
  ·rename_i M0;have Xrh:=M0.1;have pV:id<pid0:=Nat.le_of_ble_eq_true M0.2;split
   ·rename_i l' y hl hy;obtain ⟨ee,hll⟩:=F6 hl;have TP:e'=e:=by grind
    subst TP;have Xsh:l=l':=hll;subst Xsh;unfold UI at hy;split at hy
    ·rename_i eU hU;obtain ⟨EU,_,Y7,_⟩:=(hE.ty U _ hU).und;obtain ⟨ET,ie,hu,EX,BL,hz,_⟩:=(hE.ty T _ hT).und;obtain ⟨Ii,V0⟩:=hE.by_ T e' ET ie hT hu EX;have rs:=EM hI s;rw [hs] at rs;obtain ⟨e2,l2,IG,CB,I0⟩:=rs.2 Xrh;rw [Ny] at CB;cases CB;obtain ⟨px,nx,YN,news,V4,V5,_,_,Fg,h1,D0⟩:=ZD hI hy (EM hI x);have Mo:c.args = #[s,x]:=by grind
     have QG:c.argTypes = #[T,U]:=by grind
     refine go_ok hd λ pU=>?_
     have Gb:(List.length (α:=e'.D) l+nx)*E.by_ T<=140737488355328:=by rw [<- V5];exact Az pU
     have Hs:news.length=nx*e'.sz:=by rw [Fg.1,V5]
     have Jk:(valOf e' e'.zcells).cells.size=e'.sz:=by
      rw [OJ (Iy (λ _ _=>True) w e'),List.size_toArray,(Iy (λ _ _=>True) w e').len]
     have UZ:∀ w',w'.heap=w.heap->(Builtin.firstCells e'.sz nx (a.eval x)).run P w' = .ok news.toArray w':=by
      intro w' hw';rw [V4];rcases D0 with h0 | ⟨A,hA,qP,EH⟩
      ·subst h0;have:news=[]:=by simp_all
       subst this;cases px with
       | none=>rfl
       | some A=>exact run_firstCells_some (P:=P) w' e'.sz 0 A 0 YN [] Ah Ah
      ·subst hA;refine run_firstCells_some (P:=P) w' e'.sz nx A nx YN news Ad λ j u hj=>?_
       rw [IN A qP];have:=EH j u hj;simp only [World.cell?,hw'] at this ⊢;simp_all
     have B8:∀ sv v w',a.eval s=sv->(Builtin.append_ #[T,U] o.type #[sv,a.eval x]).run P w = .ok v w'->(execOp a.eval o).run P w = .ok (.value v) w':=by
      intro sv v w' hsv IT;unfold execOp;rw [ho];simp [resolve,hc,Mo,QG,invoke,builtin,hsv,IT]
     have Xli:(σ.C3 id (.arr e' (l++y) false)).v id = σ.v id+1:=by simp [St.C3,B5]
     have dE:(σ.C3 id (.arr e' (l++y) false)).c id=some (.arr e' (l++y) false):=by simp [St.C3,B5]
     rcases I0 with ⟨R3,Li,M1⟩ | ⟨b,f,cap,cur,TT,ym,hb,hh,CM,hn,KP,M1⟩
     ·-- nil
      have YJ:l=[]:=by simp_all
      subst YJ;rcases gX (P:=P) (ty:=o.type) hu EX hz BL Ii (.inl ⟨EU,Y7⟩) (p:=none) (n:=0) (cap:=0) (olds:=[]) (λ w=>by rw [V4];rfl) UZ Hs h1 Ah Gb V0 with
       ⟨b,cur,TT,y',hp,_⟩ | ⟨_,qb,hr⟩ | ⟨MR,Kf,T0,hr⟩
      ·grind
      ·subst qb;have NF:y=[]:=by simp_all
       subst NF;exact ⟨_,_,_,(by grind),hI.Zih id e',Ad,λ _=>⟨e',[],false,dE, .inl ⟨by simp [B5],rfl,rfl⟩⟩⟩
      ·refine ⟨g.D1 id w.heap.size false,_,_,B8 _ _ _ M1 hr,hI.C3 pV (w':=w.drew.alloc (.cells ((([]:List Value).toArray++news.toArray++Builtin.zeroCells (valOf e' e'.zcells).cells (MR-(0+nx)))) ET)) ((gZ w).trans (M5 w.drew _)) (Au _) Ah (λ ok g' σ' D2=>?_),?_⟩
       ·refine ⟨rfl,_,ET,_,KV w.drew _, .inl rfl,?_,by grind,λ i z hi=>?_⟩
        ·simp_all
        ·rw [AS] at hi;obtain ⟨ys,EV,CU⟩:=Fg.2 i z hi;refine ⟨ys,EV.mono D2.cell,λ j u hj=>?_⟩
         grind
       ·refine ⟨Ad,λ _=>⟨e',_,false,dE, .inr ⟨w.heap.size,false,MR,_,ET,_,by simp [G.D1,B5],KV w.drew _,?_,by simp_all,T0,by simp_all⟩⟩⟩;rw [Array.size_append,Array.size_append,List.size_toArray,List.size_toArray,size_zeroCells,Jk,Hs,List.length_nil,AF,<- Nat.add_mul];simp_all
     ·obtain ⟨Km,Tv,TT2,y2,hh2,Ji,Xyf,Ly,Cj⟩:=hI.IE hb Ny;rw [hh] at hh2;cases hh2;have hff:f=false:=Km;subst hff;have YO:cur.toList.length=cur.size:=Ah
      have qK:List.length (α:=e'.D) l*e'.sz<=cap*e'.sz:=Ad
      have hold:∀ (i:Nat) (z:e'.D),l[i]? = some z->∀ (ys:List Value),ys.length=e'.sz->∀ j,j<ys.length->i*e'.sz+j<List.length (α:=e'.D) l*e'.sz:=by
       intro i z hi ys qQ j hj;have h3:=(List.getElem?_eq_some_iff.1 hi).1;have:(i+1)*e'.sz<=List.length (α:=e'.D) l*e'.sz:=AT _ h3
       grind
      rcases gX (P:=P) (ty:=o.type) hu EX hz BL Ii (.inl ⟨EU,Y7⟩) (p:=some ⟨b,0,none⟩) (n:=List.length (α:=e'.D) l) (cap:=cap) (olds:=cur.toList.take (List.length (α:=e'.D) l*e'.sz)) (λ w=>by rw [V4];rfl) UZ Hs h1 (.inr ⟨b,cur,TT,ym,rfl,hh,Ji.un,CM,hn,rfl⟩) Gb V0 with
       ⟨b',cur',TT',y',hp,Fz,qN,hr⟩ | ⟨hp,_⟩ | ⟨MR,Kf,T0,hr⟩
      ·cases hp;rw [hh] at Fz;cases Fz;have Ei:List.length (α:=e'.D) l*e'.sz+news.length<=cur.toList.length:=by
        rw [Hs,YO,CM,<- Nat.add_mul];exact AT _ qN
       have Kb:=setRow_heap w b _ (D7 cur.toList (List.length (α:=e'.D) l*e'.sz) news).toArray _ _ hh;refine ⟨g,_,_,B8 _ _ _ M1 hr,hI.Yn6 hb (λ ok σ' D2=>?_) (λ cur' T' _ hh3=>by rw [hh] at hh3;cases hh3;rw [List.size_toArray,Ll Ei,YO]),?_⟩
       ·refine ⟨rfl,_,TT,_,Kb,Ji.eq (by rw [List.size_toArray,Ll Ei,YO]),?_,by grind,λ i z hi=>?_⟩
        ·rw [Ap,V5,Nat.add_mul,List.size_toArray,Ll Ei,YO,CM,<- Nat.add_mul];grind
        ·by_cases AY:i<List.length (α:=e'.D) l
         ·rw [AR AY] at hi;obtain ⟨ys,EV,CU⟩:=Cj i z hi;refine ⟨ys,EV.mono D2.cell,λ j u hj=>?_⟩;have h3:=hold i z hi ys EV.len j (by grind);rw [List.getElem?_toArray];unfold D7
          grind
         ·rw [AJ Ad] at hi;obtain ⟨ys,EV,CU⟩:=Fg.2 _ z hi;refine ⟨ys,EV.mono D2.cell,λ j u hj=>?_⟩;have h3:=CU j u hj;have h4:=(List.getElem?_eq_some_iff.1 h3).1;have h5:List.length (α:=e'.D) l*e'.sz<=i*e'.sz:=AT _ Ad;rw [Nat.sub_mul] at h3 h4;rw [List.getElem?_toArray];unfold D7;rw [AA,AJ (by grind),AR (by rw [Ar];omega),<- h3]
          grind
       ·refine ⟨Ad,λ _=>⟨e',_,false,dE, .inr ⟨b,false,cap,_,TT,_,hb,Kb,?_,by simp_all,KP,by simp_all⟩⟩⟩;rw [List.size_toArray,Ll Ei,YO,CM]
      ·grind
      ·refine ⟨g.D1 id w.heap.size false,_,_,B8 _ _ _ M1 hr,hI.C3 pV (w':=w.drew.alloc (.cells (((cur.toList.take (List.length (α:=e'.D) l*e'.sz)).toArray++news.toArray++Builtin.zeroCells (valOf e' e'.zcells).cells (MR-(List.length (α:=e'.D) l+nx)))) ET)) ((gZ w).trans (M5 w.drew _)) (Au _) Ah (λ ok g' σ' D2=>?_),?_⟩
       ·have Gg:(cur.toList.take (List.length (α:=e'.D) l*e'.sz)).length=List.length (α:=e'.D) l*e'.sz:=by simp_all
        refine ⟨rfl,_,ET,_,KV w.drew _, .inl rfl,?_,by grind,λ i z hi=>?_⟩
        ·rw [Ap,V5,Nat.add_mul,Array.size_append,Array.size_append,List.size_toArray,List.size_toArray,Gg,Hs];omega
        ·by_cases AY:i<List.length (α:=e'.D) l
         ·rw [AR AY] at hi;obtain ⟨ys,EV,CU⟩:=Cj i z hi;refine ⟨ys,EV.mono D2.cell,λ j u hj=>?_⟩;have h3:=hold i z hi ys EV.len j (by grind)
          grind
         ·rw [AJ Ad] at hi;obtain ⟨ys,EV,CU⟩:=Fg.2 _ z hi;refine ⟨ys,EV.mono D2.cell,λ j u hj=>?_⟩;have h3:=CU j u hj;have h4:=(List.getElem?_eq_some_iff.1 h3).1;have h5:List.length (α:=e'.D) l*e'.sz<=i*e'.sz:=AT _ Ad;rw [Nat.sub_mul] at h3 h4;rw [Array.getElem?_append_left (by grind),Array.getElem?_append_right (by grind),List.size_toArray,Gg,List.getElem?_toArray,<- h3]
          grind
       ·refine ⟨Ad,λ _=>⟨e',_,false,dE, .inr ⟨w.heap.size,false,MR,_,ET,_,by simp [G.D1,B5],KV w.drew _,?_,by simp_all,T0,by simp_all⟩⟩⟩;have Gg:(cur.toList.take (List.length (α:=e'.D) l*e'.sz)).length=List.length (α:=e'.D) l*e'.sz:=by simp_all
        rw [Array.size_append,Array.size_append,List.size_toArray,List.size_toArray,size_zeroCells,Jk,Gg,Hs,<- Nat.add_mul,<- Nat.add_mul];simp_all
    simp_all
   ·exact BF
  ·exact BF
 ·exact BF
theorem sM {id lo n:Nat} {av:AV} (h:partOf σ av=some (id,lo,n)):∃ e l,σ.c id=some (.arr e l false)/\((∃ ver,av = .slw id ver/\σ.v id=ver/\lo=0/\n=List.length (α:=e.D) l)\/∃ ver,av = .slm id ver lo n/\σ.v id=ver):=by
 unfold partOf at h
 grind
theorem xf (hI:Inv B ok0 w0 g σ a w) {id lo n:Nat} {e:Ty} {l:List e.D} {av:AV} {v:Value} (h:partOf σ av=some (id,lo,n)) (hc:σ.c id=some (.arr e l false)) (hr:RepA (okG B ok0 g w) g σ w av v):
  ∃ p cap,v = .slice p n cap/\lo+n<=List.length (α:=e.D) l/\n<=cap/\cap<=maxLen/\(0<n->∃ b,g.bx id=some (b,false)/\p=some ⟨b,lo*e.sz,none⟩):=by
 obtain ⟨e1,l1,Ij,h⟩:=sM h;rw [hc] at Ij;cases Ij;rcases h with ⟨ver,rfl,hv,rfl,rfl⟩ | ⟨ver,rfl,hv⟩
 ·obtain ⟨e2,l2,IG,CB,I0⟩:=hr.2 hv;rw [hc] at CB;cases CB;obtain ⟨p,cap,hp,Gf,Ly,hA,_⟩:=I0.form;refine ⟨p,cap,hp,Ad,Gf,Ly,λ h0=>?_⟩;obtain ⟨b,f,hb,ED⟩:=hA h0;have hf:f=false:=(hI.IE hb hc).1;simp_all
 ·obtain ⟨e2,l2,IG,A,cap,CB,NS,Gf,Ly,hA,Mr,hp⟩:=hr.2 hv;rw [hc] at CB;cases CB;refine ⟨A,cap,hp,NS,Gf,Ly,λ h0=>?_⟩;obtain ⟨b,f,hb,ED⟩:=hA Ad;have hf:f=false:=(hI.IE hb hc).1;simp_all
theorem sU {id:Nat} {c:Con} (hc:σ.c id=some c):σ.Dq id c = σ:=by
 have:EO σ.c id (some c) = σ.c:=by
  funext i;rw [B5];simp_all
 unfold St.Dq;rw [this]
theorem xg {α:Type} (l:List α) (lo:Nat):Ig l lo []=l:=by unfold Ig;simp
theorem jw {α:Type} {l:List α} {lo:Nat} {y:List α} (h:lo+y.length<=l.length):(Ig l lo y).length=l.length:=by
 unfold Ig
 grind
theorem Zjh (hI:Inv B ok0 w0 g σ a w) {id b lo:Nat} {e:Ty} {l y:List e.D} {ys:List Value} (hc:σ.c id=some (.arr e l false)) (hb:g.bx id=some (b,false)) (hy:Jr (okG B ok0 g w) w e y ys) (h1:∀ u∈ys,u.oneCell'=true)
  (Ei:lo+List.length (α:=e.D) y<=List.length (α:=e.D) l):
  ∃ w',(storeCells ⟨b,lo*e.sz,none⟩ ys).run P w = .ok () w'/\Inv B ok0 w0 g (σ.Dq id (.arr e (Ig l lo y) false)) a w':=by
 obtain ⟨_,cur,TT,ym,hh,Ji,BL,Ds,Cj⟩:=hI.IE hb hc;have Mn:cur.toList.length=cur.size:=Ah
 have Iv:ys.length=List.length (α:=e.D) y*e.sz:=hy.1;have hle:lo*e.sz+ys.length<=cur.size:=by
  rw [Iv,<- Nat.add_mul];exact Nat.le_trans (AT _ Ei) BL
 have Fy:=Zl P b (lo*e.sz) TT ym ys 0 cur w hh Ji.un Ad h1;simp only [Nat.add_zero] at Fy;unfold D7 at Fy;refine ⟨_,Fy,hI.aG hc hb (λ e' l' fz he=>by cases he;exact ⟨_,false,rfl,jw Ei⟩) (by grind) λ ok σ' D2=>?_⟩;refine ⟨rfl,_,TT,ym,setRow_heap w b _ _ _ _ hh,(by grind),?_,by rw [jw Ei];omega,λ k x hk=>?_⟩
 ·rw [jw Ei,List.size_toArray,Ap,Ap,Ar,List.length_drop,Mn];omega
 have Dc:∀ (i:Nat) (zs:List Value),zs.length=e.sz->∀ j v,zs[j]? = some v->j<e.sz:=by grind
 by_cases eR:k<lo
 ·have De:l[k]? = some x:=by
   unfold Ig at hk
   grind
  obtain ⟨zs,OF,Jk⟩:=Cj k x De;refine ⟨zs,OF.mono D2.cell,λ j v hj=>?_⟩;have hj1:=Dc k zs OF.len j v hj;have QK:(k+1)*e.sz<=lo*e.sz:=AT _ eR
  grind
 ·by_cases LB:k<lo+List.length (α:=e.D) y
  ·have De:y[k-lo]? = some x:=by
    unfold Ig at hk
    grind
   obtain ⟨zs,OF,Jk⟩:=hy.2 _ x De;refine ⟨zs,OF.mono D2.cell,λ j v hj=>?_⟩;have h3:=Jk j v hj;have h4:=(List.getElem?_eq_some_iff.1 h3).1;have h5:lo*e.sz<=k*e.sz:=AT _ Ad;rw [Nat.sub_mul] at h3 h4;rw [List.getElem?_toArray,AA,AJ (by rw [Ar];omega),Ar,Mn,AR Ad,<- h3]
   grind
  ·have De:l[k]? = some x:=by
    unfold Ig at hk;rw [AJ (by rw [Ar];omega),Ar,AJ Ad,List.getElem?_drop] at hk
    grind
   obtain ⟨zs,OF,Jk⟩:=Cj k x De;refine ⟨zs,OF.mono D2.cell,λ j v hj=>?_⟩;have h5:(lo+List.length (α:=e.D) y)*e.sz<=k*e.sz:=AT _ Ad;rw [Nat.add_mul,<- Iv] at h5;rw [List.getElem?_toArray,AJ (by rw [Ap,Ar,Mn];omega),List.getElem?_drop,Ap,Ar,Mn]
   grind
theorem Zr4 {ok:Nat->Nat->Prop} {e:Ty} (n:Nat):Jr ok w e (List.replicate n e.zero) ((List.replicate n e.zcells).flatten):=
 ⟨by rw [Rf,AO],λ i x hi=>jx n i x hi⟩
theorem Yig {e:Ty} (n:Nat):∀ u∈(List.replicate n e.zcells).flatten,u.oneCell'=true:=λ u hu=>by
 obtain ⟨z,hz,hu⟩:=List.mem_flatten.1 hu;rw [List.eq_of_mem_replicate hz] at hu;exact (Iy (λ _ _=>True) (default:World) e).one u hu
theorem Yvf (hE:EnvOk P E) (hI:Inv B ok0 w0 g σ a w) (hd:∀ d,o.dst=some d->d<a.tmps.size) {T:TypeId} {c:Call} (ho:o.op = .call c) (CN:c.callee = .builtin .clear) {s:Operand}
  (ha:c.args.toList=[s]) (Il:c.argTypes.toList=[T]):DZ P B ok0 w0 (Qg E T o σ (Bm σ s)) o a w:=by
 unfold Qg;split
 ·rename_i id lo n e hp hT;split
  ·rename_i e' l hc;split
   ·rename_i hee;subst hee;obtain ⟨p,cap,hv,DG,_,_,NJ⟩:=xf hI hp hc (EM hI s);obtain ⟨ET,ie,hu,EX,BL,hz,_⟩:=(hE.ty T _ hT).und;have Mo:c.args = #[s]:=by grind
    have QG:c.argTypes = #[T]:=by grind
    have B8:∀ w',(Builtin.clear_ #[T] o.type #[a.eval s]).run P w = .ok (.tuple #[]) w'->(execOp a.eval o).run P w = .ok (.value (.tuple #[])) w':=by
     intro w' IT;unfold execOp;rw [ho];simp [resolve,CN,Mo,QG,invoke,builtin,IT]
    refine go_ok hd λ _=>?_
    cases n with
    | zero=>
     refine ⟨g,w,_,B8 w ?_,?_,[],rfl,trivial⟩
     ·rw [hv];cases p <;> simp [Builtin.clear_,run_underlying hu]
     ·rw [show List.replicate 0 e'.zero=[] from rfl,xg,sU hc]
      grind
    | succ m=>
     obtain ⟨b,hb,rfl⟩:=NJ (Nat.succ_pos m);obtain ⟨w',h1,h2⟩:=Zjh (P:=P) hI hc hb (Zr4 (m+1)) (Yig (m+1)) (lo:=lo) (by simp_all);refine ⟨g,w',_,B8 w' ?_,h2,[],rfl,trivial⟩;rw [hv];have hzv:∀ w,(zeroValue ET).run P w = .ok (valOf e' e'.zcells) w:=λ w=>by
      unfold zeroValue;simp [typeInfo,EX,hz]
     have Jk:(valOf e' e'.zcells).cells=e'.zcells.toArray:=OJ (Iy (λ _ _=>True) w e');have OF:(Builtin.zeroCells e'.zcells.toArray (m+1)).toList=(List.replicate (m+1) e'.zcells).flatten:=by
      have hl:=(Iy (λ _ _=>True) (default:World) e').len;have h:=yZ (e:=e') (n:=m+1);unfold madeCells at h;unfold Builtin.zeroCells;simp_all
     simp [Builtin.clear_,run_underlying hu,hzv,Jk,OF,h1]
   ·exact BF
  ·exact BF
 ·exact BF
theorem Yjz (hE:EnvOk P E) (hI:Inv B ok0 w0 g σ a w) (hd:∀ d,o.dst=some d->d<a.tmps.size) {T U:TypeId} {c:Call} (ho:o.op = .call c) (CN:c.callee = .builtin .copy) {s x:Operand}
  (ha:c.args.toList=[s,x]) (Il:c.argTypes.toList=[T,U]):DZ P B ok0 w0 (Qn E T U o σ (Bm σ s) (Bm σ x)) o a w:=by
 unfold Qn;split
 ·rename_i id lo n e hp hT;split
  ·rename_i e' l y0 hc hy;split
   ·rename_i y qR;obtain ⟨ee,qR⟩:=F6 qR;have TP:e=e':=by grind
    subst TP;have Xth:y0=y:=qR;subst Xth;unfold UI at hy;split at hy
    ·rename_i eU hU;obtain ⟨p,cap,hv,DG,_,_,NJ⟩:=xf hI hp hc (EM hI s);obtain ⟨ET,ie,hu,EX,BL,hz,_⟩:=(hE.ty T _ hT).und;obtain ⟨px,nx,YN,news,V4,V5,_,_,Fg,h1,D0⟩:=ZD hI hy (EM hI x);have Mo:c.args = #[s,x]:=by grind
     have QG:c.argTypes = #[T,U]:=by grind
     have B8:∀ v w',(Builtin.copy_ #[T,U] o.type #[a.eval s,a.eval x]).run P w = .ok v w'->(execOp a.eval o).run P w = .ok (.value v) w':=by
      intro v w' IT;unfold execOp;rw [ho];simp [resolve,CN,Mo,QG,invoke,builtin,IT]
     have Zwq:(sizeOf ET).run P w = .ok e.sz w:=by
      unfold sizeOf;simp [typeInfo,EX,BL]
     have hk:Nat.min nx n=List.length (α:=e.D) (List.take n y0):=by
      grind
     have dF:Jr (okG B ok0 g w) w e (List.take n y0) (news.take (Nat.min nx n*e.sz)):=by
      refine ⟨?_,λ i z hi=>?_⟩
      ·rw [<- hk,Ar,Fg.1,V5];simp
      ·rw [AQ] at hi;split at hi
       ·rename_i Dc;obtain ⟨ys,EV,CU⟩:=Fg.2 i z hi;refine ⟨ys,EV,λ j u hj=>?_⟩;have hj1:j<e.sz:=by have:=(List.getElem?_eq_some_iff.1 hj).1;rw [EV.len] at this;omega
        have hi1:i<nx:=by grind
        have h5:(i+1)*e.sz<=Nat.min nx n*e.sz:=AT _ (Nat.le_min.2 ⟨hi1,Dc⟩)
        grind
       simp_all
     have LB:(news.take (Nat.min nx n*e.sz)).length=Nat.min nx n*e.sz:=by rw [dF.1,hk]
     have UZ:(Builtin.firstCells e.sz (Nat.min nx n) (a.eval x)).run P w = .ok (news.take (Nat.min nx n*e.sz)).toArray w:=by
      rw [V4];rcases D0 with h0 | ⟨A,hA,qP,EH⟩
      ·subst h0;have VN:Nat.min 0 n=0:=Nat.zero_min n;rw [VN,Nat.zero_mul,List.take_zero];cases px with
       | none=>rfl
       | some A=>exact run_firstCells_some (P:=P) w e.sz 0 A 0 YN [] Ah Ah
      ·subst hA;refine run_firstCells_some (P:=P) w e.sz _ A nx YN _ LB λ j u hj=>?_
       rw [IN A qP]
       grind
     have hlen:(Builtin.lenOf (a.eval x)).run P w = .ok nx w:=by rw [V4];rfl
     refine go_ok hd λ _=>?_
     rcases Nat.eq_zero_or_pos n with h0 | h0
     ·subst h0;refine ⟨g,w,_,B8 (goInt 0) w ?_,?_,[_],rfl,rfl,λ t ht=>by cases ht⟩
      ·have VN:Nat.min nx 0=0:=Nat.min_zero nx;rw [VN,Nat.zero_mul,List.take_zero] at UZ;rw [hv];cases p <;> simp [Builtin.copy_,run_underlying hu,hlen,VN,Zwq,UZ,storeCells]
      ·rw [List.take_zero,xg,sU hc]
       grind
     ·obtain ⟨b,hb,rfl⟩:=NJ h0;obtain ⟨w',h2,h3⟩:=Zjh (P:=P) hI hc hb dF (by grind) (lo:=lo) (by grind);refine ⟨g,w',_,B8 (goInt (Nat.min nx n)) w' ?_,h3,[_],rfl,by rw [hk];rfl,λ t ht=>by cases ht⟩;rw [hv];simp [Builtin.copy_,run_underlying hu,hlen,Zwq,UZ,h2]
    simp_all
   ·exact BF
  ·exact BF
 ·exact BF
theorem wZ (hI:Inv B ok0 w0 g σ a w) (hd:∀ d,o.dst=some d->d<a.tmps.size) {x:Operand} (ho:o.op = .move x\/o.op = .assign x):
  DZ P B ok0 w0 (Nr E o σ (OZ x) (Bm σ x)) o a w:=by
 have hold:=Yqz (P:=P) (E:=E) hI hd ho;unfold Nr;split
 ·rename_i d hx Hq;rw [hx] at hold;cases Er:(E.bx d && OZ x) with
  | false=>simp_all
  | true=>
   dsimp only [cond_true];split
   ·rename_i e hT;have rx:=EM hI x;rw [hx] at rx;have hv:a.eval x = .slice none 0 0:=rx;refine go_ok hd λ _=>⟨_,w, .slice none 0 0,?_,hI.Zih d e,by simp [St.C3,B5],λ _=>⟨e,[],false,by simp [St.C3,B5], .inl ⟨by simp [B5],rfl,rfl⟩⟩⟩
    have hr:(execOp a.eval o).run P w = .ok (.value (a.eval x)) w:=by rcases ho with ho | ho <;> · unfold execOp;simp_all
    simp_all
   ·exact BF
 simp_all
end
end Go.AM
end

section
/- Calls of functions whose contracts are known; appends and strings' bytes, put together. -/
namespace Go.AM
open Go.RowKit (Below)
set_option linter.unusedSectionVars false
variable [Lay]
def O3 (ok:Nat->Nat->Prop) (w:World):AV->Value->Prop
 | .dat t x _,v=>∃ cs,RepD ok w t x cs/\v=valOf t cs
 | .ept t x off,v=>JF ok w t x off v
 | .fn f caps,v=>∃ vs:List Value,v = .func (.func f) #[] vs.toArray/\C9 (λ (d:Dat) u=>JF ok w d.t d.x 0 u) caps vs
 | _,_=>False
def Hc:List Tag->Nat
 | []=>0
 | t :: r=>if t.id=0 then Hc r else Hc r+1
def Qa (ρ:Nat->Option (Nat×Nat)) (w:World) (cs:List Value):Nat->List Tag->Prop
 | _,[]=>True
 | j,t :: r=>if t.id=0 then cs[t.off]? = some (.slice none 0 0)/\Qa ρ w cs j r else Vi ⟨λ _=>none,ρ⟩ w t.sz j cs[t.off]?/\Qa ρ w cs (j+1) r
def Df (ok0:Nat->Nat->Prop) (w w':World) (rws:List (Option (Nat×Nat))) (ρ:Nat->Option (Nat×Nat)) (b o:Nat):Prop:=
 ok0 b o\/((w.heap.size<=b\/∃ u,some (b,u)∈rws)/\b<w'.heap.size/\∀ j u,ρ j=some (b,u)->o<u)
def L7 (ok:Nat->Nat->Prop) (ρ:Nat->Option (Nat×Nat)) (w:World):Nat->List Dat->List Value->Prop
 | _,[],[]=>True
 | j,d :: ds,v :: vs=>(∃ cs,RepD ok w d.t d.x cs/\v=valOf d.t cs/\Qa ρ w cs j d.g)/\L7 ok ρ w (j+Hc d.g) ds vs
 | _,_,_=>False
def UX (w:World) (cs:List Value):List Tag->List (Option (Nat×Nat))->List (Option (Nat×Nat))->Prop
 | [],rs,r=>rs=r
 | τ :: h,rs,r=>∃ q r1,rs=q :: r1/\UX w cs h r1 r/\match q with
  | none=>cs[τ.off]? = some (.slice none 0 0)
  | some (b,u)=>∃ n cap cur T,cs[τ.off]? = some (.slice (some ⟨b,0,none⟩) n cap)/\u=n*Pj τ.sz/\w.heap[b]? = some (.cells cur T (0,0))/\cur.size=cap*Pj τ.sz/\n<=cap/\cap<=maxLen/\(τ.sz=0->T=Lay.byt)
def K8 (ok:Nat->Nat->Prop) (w:World) (e:Ty) (l:List e.D) (cur:Array Value):Prop:=
 ∀ (i:Nat) (x:e.D),l[i]? = some x->∃ ys,RepD ok w e x ys/\∀ j u,ys[j]? = some u->cur[i*e.sz+j]? = some u
def Yd (ok:Nat->Nat->Prop) (w:World) (a:AV) (v:Value) (bs r:List Nat) (rs s:List (Option (Nat×Nat))):Prop:=
 match a with
 | .iov t x g=>∃ b,bs=b :: r/\v = .pointer (some ⟨b,0,none⟩)/\∃ cs T,w.heap[b]? = some (.cells cs.toArray T (0,0))/\RepD ok w t x cs/\Xi b t T cs/\UX w cs g rs s
 | .ioa e l=>∃ b cap cur T,bs=b :: r/\rs=s/\v = .slice (some ⟨b,0,none⟩) (List.length (α:=e.D) l) cap/\w.heap[b]? = some (.cells cur T (0,0))/\cur.size=cap*e.sz/\
   List.length (α:=e.D) l<=cap/\cap<=maxLen/\0<List.length (α:=e.D) l/\K8 ok w e l cur
 | a=>O3 ok w a v/\bs=r/\rs=s
def L3 (ok:Nat->Nat->Prop) (w:World):List AV->List Value->List Nat->List (Option (Nat×Nat))->Prop
 | [],[],bs,rs=>bs=[]/\rs=[]
 | a :: l,v :: vs,bs,rs=>∃ r s,Yd ok w a v bs r rs s/\L3 ok w l vs r s
 | _,_,_,_=>False
def Xoh (ok:Nat->Nat->Prop) (ρ:Nat->Option (Nat×Nat)) (w:World) (j:Nat) (c:Con) (b:Nat):Prop:=
 match c with
 | .var t x g=>∃ cs T,w.heap[b]? = some (.cells cs.toArray T (0,0))/\RepD ok w t x cs/\Xi b t T cs/\Qa ρ w cs j g
 | .arr e l f=>f=false/\∃ cur T y,w.heap[b]? = some (.cells cur T y)/\Mk e y cur.size/\List.length (α:=e.D) l*e.sz<=cur.size/\List.length (α:=e.D) l<=maxLen/\K8 ok w e l cur
 | .val _=>False
def RW:Con->Nat
 | .var _ _ g=>Hc g
 | _=>0
def MP (ok:Nat->Nat->Prop) (ρ:Nat->Option (Nat×Nat)) (w:World):Nat->List Con->List Nat->Prop
 | _,[],[]=>True
 | j,d :: ds,b :: bs=>Xoh ok ρ w j d b/\MP ok ρ w (j+RW d) ds bs
 | _,_,_=>False
def L8:List Con->Nat
 | []=>0
 | x :: r=>RW x+L8 r
def KH:List Dat->Nat
 | []=>0
 | x :: r=>Hc x.g+KH r
def Zmq:AV->Nat
 | .dat _ _ g=>Hc g
 | .tup ds=>KH ds
 | _=>0
def Yh (ok:Nat->Nat->Prop) (ρ:Nat->Option (Nat×Nat)) (w w':World) (EG:List Con) (bs:List Nat) (rws:List (Option (Nat×Nat))) (v:Value):AV->Prop
 | .dat t x g=>∃ cs,RepD ok w' t x cs/\v=valOf t cs/\Qa ρ w' cs 0 g
 | .tup ds=>∃ vs:List Value,v = .tuple vs.toArray/\L7 ok ρ w' 0 ds vs
 | .bxv e l=>bs=[]/\rws=[]/\IP e=true/\∃ b cap cur T,w.heap.size<=b/\b<w'.heap.size/\w'.heap[b]? = some (.cells cur T (0,0))/\cur.size=cap*e.sz/\
   List.length (α:=e.D) l<=cap/\cap<=maxLen/\v = .slice (some ⟨b,0,none⟩) (List.length (α:=e.D) l) cap/\K8 (λ _ _=>False) w' e l cur
 | .slp k n=>∃ b cap e l f A,bs[k]? = some b/\EG[k]? = some (.arr e l f)/\n<=List.length (α:=e.D) l/\n<=cap/\cap<=maxLen/\(n≠0->A=some ⟨b,0,none⟩)/\(∀ a:Addr,A=some a->a.spot=none)/\v = .slice A n cap
 | _=>False
def O4 (ok0:Nat->Nat->Prop) (w w':World) (av:AV) (EG:List Con) (bs:List Nat) (rws:List (Option (Nat×Nat))) (v:Value):Prop:=
 ∃ ρ:Nat->Option (Nat×Nat),(∀ j b u,ρ j=some (b,u)->(w.heap.size<=b\/∃ u0,some (b,u0)∈rws/\u0<=u)/\b<w'.heap.size)/\(∀ j k b u u',ρ j=some (b,u)->ρ k=some (b,u')->j=k)/\
  MP (Df ok0 w w' rws ρ) ρ w' (Zmq av) EG bs/\Yh (Df ok0 w w' rws ρ) ρ w w' EG bs rws v av
def bN (w:World) (bs:List Nat) (rws:List (Option (Nat×Nat))):Prop:=
 (∀ (i j b u u':Nat),rws[i]? = some (some (b,u))->rws[j]? = some (some (b,u'))->i=j)/\∀ b u,some (b,u)∈rws->b<w.heap.size/\b∉bs
def Bh (P:Program) (f:FuncId) (s:Spec):Prop:=
 ∀ l r x,s l=some r->r.m=some x->∀ (ok0:Nat->Nat->Prop) (w:World) (vs:List Value) (bs:List Nat) (rws:List (Option (Nat×Nat))),(∃ z,Lay.ok z w/\(∀ b∈bs,z<=b)/\∀ b u,some (b,u)∈rws->z<=b)->
  (∀ b o,ok0 b o->b<w.heap.size/\b∉bs/\∀ u,some (b,u)∈rws->o<u)->bs.Nodup->(∀ b∈bs,b<w.heap.size)->bN w bs rws->L3 ok0 w l vs bs rws->
  Calls P f vs.toArray w λ e w'=>∃ v,e = .returned v/\BelowX ⟨w.heap.size,bs,rws⟩ w w'/\O4 ok0 w w' (r.enc x) (r.io x) bs rws v
def Enters (P:Program) (f:FuncId):Prop:=∀ args w,(callFunc f args).run P w = .ok (.enter f args) w
def Ib (P:Program) (E:Env):Prop:=∀ f s,E.call f=some s->Bh P f s/\Enters P f/\(E.lend f=true->Words s)
section
variable {P : Program} {B : Bd} {ok0 : Nat -> Nat -> Prop} {w0 w w' : World} {g g' : G} {σ σ1 : St} {a : Act} {o : Oper} {E : Env}
theorem Zo4 (hE:EnvOk P E) (hI:Inv B ok0 w0 g σ a w) (hd:∀ d,o.dst=some d->d<a.tmps.size) {T U:Nat} {c:Call} (ho:o.op = .call c) (hc:c.callee = .builtin .append) {s x:Operand}
  (ha:c.args.toList=[s,x]) (Il:c.argTypes.toList=[T,U]):DZ P B ok0 w0 (KX E T U o σ (Bm σ s) (Bm σ x)) o a w:=by
 unfold KX;split
 ·rename_i d e Hq hT;obtain ⟨ET,ie,hu,EX,_⟩:=(hE.ty T _ hT).und;split
  ·rename_i l hl;split
   ·rename_i id hid;split
    ·rename_i hU;have Y7:P.underlying U=some .string:=(hE.ty U _ hU).und;split
     ·split
      ·rename_i y gs hx;have Y8:=SC hI hx;have BL:(Bu y).length=y.size:=by unfold Bu;simp
       have Xbe:=sR (news:=(Bu y).map (Value.int .u8)) (l':=Bu y) (m:=y.size) hE hI hd ho hc ha Il hT hu EX (.inr Y7) hl hid
        ⟨by simp [Ty.sz],λ i x hi=>⟨[.int .u8 x],rfl,λ j u hj=>by
         have TW:j=0:=by grind
         subst TW;simp at hj;subst hj;simp only [Ty.sz,Nat.mul_one,Nat.add_zero,List.getElem?_map,hi]
         rfl⟩⟩ BL (λ w=>by rw [Y8];rfl) (λ w' _=>by
          rw [Y8];simp only [Builtin.firstCells,Sem.run_pure,Bu];rw [show y.extract 0 y.size=y from ByteArray.extract_zero_size];congr 1
          grind) (λ u hu=>by
          obtain ⟨n,_,rfl⟩:=List.mem_map.1 hu
          rfl)
       exact Xbe
      ·exact BF
     ·exact BF
    ·rename_i e2 hU;split
     ·rename_i y hy;obtain ⟨EU,_,Y7,_⟩:=(hE.ty U _ hU).und;obtain ⟨p,n,cap,cs,hv,DG,_,_,Cj,h1,D0⟩:=ZD hI hy (EM hI x);refine sR (news:=cs) (l':=y) (m:=y.length) hE hI hd ho hc ha Il hT hu EX (by simp_all) hl hid Cj rfl (λ w=>by rw [hv,DG];rfl) (λ w' hw'=>?_) h1;rw [hv,DG];rcases D0 with h0 | ⟨A,hA,hs,EH⟩
      ·subst h0;have:cs=[]:=AU (by rw [Cj.1,DG,Nat.zero_mul]);subst this;cases p with
       | none=>rfl
       | some A=>exact run_firstCells_some (P:=P) w' e.sz 0 A 0 cap [] Ah Ah
      ·subst hA;refine run_firstCells_some (P:=P) w' e.sz n A n cap cs (by rw [Cj.1,DG]) λ j u hj=>?_
       rw [IN A hs];have:=EH j u hj;simp [World.cell?] at this ⊢;simp_all
     ·exact BF
    ·exact BF
   ·exact BF
  ·exact BF
 ·exact BF
theorem Ybg (hE:EnvOk P E) (hI:Inv B ok0 w0 g σ a w) (hd:∀ d,o.dst=some d->d<a.tmps.size) {src dst:Nat} {x:Operand} (ho:o.op = .convert src dst x) (hs:E.ty src=some .str) (Y6:E.ty dst=some (.sl (.int .u8))):
  DZ P B ok0 w0 (MA E src dst o σ (Bm σ x)) o a w:=by
 have u1:P.underlying src=some .string:=(hE.ty _ _ hs).und;obtain ⟨ET,ie,u2,_,_,_,hk,_⟩:=(hE.ty _ _ Y6).und;unfold MA;rw [hs,Y6];dsimp only;split
 ·rename_i s gs hx;have hr:=Lib.run_convert_string_bytes (P:=P) w src dst ET s u1 u2 (hk .u8 rfl);have B8:(execOp a.eval o).run P w = .ok (.value (.slice (some ⟨w.heap.size,0,none⟩) s.size (grownCap w s.size 0 ET))) (Lib.bytesWorld w ET s):=by
   unfold execOp;rw [ho];simp [SC hI hx,Sem.run_bind,hr,Result.andThen_ok,Sem.run_pure]
  have hb:Below w.heap.size w (Lib.bytesWorld w ET s):=⟨rfl,rfl,rfl,by rw [Lib.bytesWorld_size];omega,λ k hk=>Lib.bytesWorld_at_old w ET s k hk⟩;have TX:B.n<=w.heap.size:=by have:=hI.below.size;have:=hI.hB;omega
  have hlen:(Bu s).length=s.size:=by unfold Bu;simp
  split
  ·rename_i d Hq Er;refine go_ok hd λ hc=>?_
   have Gb:s.size*1<=140737488355328:=Az hc;have BL:(Lib.bytesCells w ET s).size=grownCap w s.size 0 ET:=by
    have h1:=grownCap_ge w s.size 0 ET;have h2:s.data.size=s.size:=rfl;simp [Lib.bytesCells,Array.size_append,Array.size_map,Array.size_replicate];omega
   have Ds:grownCap w s.size 0 ET<=maxLen:=grownCap_le_maxLen w s.size 0 ET (by unfold maxLen;omega);have Kf:=grownCap_ge w s.size 0 ET;refine ⟨g.D1 d w.heap.size false,_,_,B8,hI.C3 (Nat.lt_of_lt_of_le (hd _ Hq) hI.tm) hb (Au _) (by rw [Lib.bytesWorld_size];omega) (λ ok g' σ' hx=>?_),?_⟩
   ·refine ⟨rfl,_,ET,_,Lib.bytesWorld_at_new w ET s, .inr ⟨rfl,Au _⟩,?_,?_,λ i n hi=>?_⟩
    ·rw [hlen,BL];simpa [Ty.sz] using Kf
    ·omega
    ·have Dc:i<s.size:=by grind
     refine ⟨[.int .u8 n],rfl,λ j u hj=>?_⟩;have TW:j=0:=by grind
     subst TW;simp at hj;have D0:=Lib.bytesWorld_cell w ET s i Dc;simp [World.cell?,Lib.bytesWorld_at_new] at D0;simp [Ty.sz,Nat.add_zero];unfold Bu at hi;simp_all
   ·exact ⟨by simp [St.C3,B5],λ _=>⟨.int .u8,Bu s,false,by simp [St.C3,B5], .inr ⟨w.heap.size,false,grownCap w s.size 0 ET,_,ET,_,by simp [G.D1,B5],Lib.bytesWorld_at_new w ET s,by rw [BL];simp [Ty.sz],Ad,Ds,by grind⟩⟩⟩
  ·refine go_ok hd λ hc=>?_
   have Gb:s.size*1<=140737488355328:=Az hc;refine ⟨g,_,_,B8,hI.grown hb,[_],⟨_,_,_,rfl,hlen,grownCap_ge w s.size 0 ET,grownCap_le_maxLen w s.size 0 ET (by unfold maxLen;omega),λ i n hi=>?_⟩,rfl,λ t ht=>by cases ht⟩;have Dc:i<s.size:=by grind
   refine ⟨_,rfl,rfl,[.int .u8 n],rfl,λ j u hj=>?_⟩;have TW:j=0:=by grind
   subst TW;simp at hj;simp [Ty.sz,Nat.mul_one,Nat.add_zero,AF];refine ⟨.inr ⟨.inl TX,by rw [Lib.bytesWorld_size];omega,λ id he=>by have:=(hI.bb id _ _ he).2;omega,λ id u he=>by have:=(hI.rb id _ _ he).2.1;omega⟩,?_⟩;rw [Lib.bytesWorld_cell w ET s i Dc];unfold Bu at hi;simp_all
 ·exact BF
theorem O3.mono {ok ok':Nat->Nat->Prop} (hm:∀ b o,ok b o->ok' b o) {av:AV} {v:Value} (h:O3 ok w av v):O3 ok' w av v:=by
 cases av with
 | dat t x g=>obtain ⟨cs,h1,h2⟩:=h;exact ⟨cs,h1.mono (by simp_all),h2⟩
 | ept t x off=>exact JF.mono hm h
 | fn f caps=>obtain ⟨vs,h1,h2⟩:=h;exact ⟨vs,h1,h2.imp λ _ _ hp=>hp.mono hm⟩
 | _=>exact h
def NA (ok:Nat->Nat->Prop) (g:G) (σ:St) (w:World) (a:AV) (v:Value) (ids r:List Nat):Prop:=
 match a with
 | .iov t x h=>∃ id b f gs,ids=id :: r/\v = .pointer (some ⟨b,0,none⟩)/\g.bx id=some (b,f)/\σ.c id=some (.var t x gs)/\h=Vb σ gs
 | .ioa e l=>∃ id fz,ids=id :: r/\σ.c id=some (.arr e l fz)/\eK e=false/\Pg g w id e.sz (List.length (α:=e.D) l) v
 | a=>O3 ok w a v/\ids=r
def KC (ok:Nat->Nat->Prop) (g:G) (σ:St) (w:World):List AV->List Value->List Nat->Prop
 | [],[],ids=>ids=[]
 | a :: l,v :: vs,ids=>∃ r,NA ok g σ w a v ids r/\KC ok g σ w l vs r
 | _,_,_=>False
structure Still (B:Bd) (ok0:Nat->Nat->Prop) (g g':G) (σ σ':St) (w:World):Prop where
 ext:Ext (okG B ok0 g w) (okG B ok0 g' w) g g' σ σ' w w
 v:σ'.v = σ.v
 t:σ'.t = σ.t
 r:σ'.r = σ.r
 var:∀ id t x gs,σ.c id=some (.var t x gs)->σ'.c id=some (.var t x gs)
 arr:∀ id e l f,σ.c id=some (.arr e l f)->∃ f',σ'.c id=some (.arr e l f')
theorem Still.refl (B:Bd) (ok0:Nat->Nat->Prop) (g:G) (σ:St) (w:World):Still B ok0 g g σ σ w where
  ext := { cell := Ah
           box:=(by simp_all)
           row:=Ah }
  v:=rfl
  t:=rfl
  r:=rfl
  var:=Ah
  arr:=(by simp_all)
theorem Still.bx {g g':G} {σ σ':St} (h:Still B ok0 g g' σ σ' w) {id b:Nat} {f:Bool} (hb:g.bx id=some (b,f)):∃ f',g'.bx id=some (b,f'):=
 ((h.ext.box id (σ.v id) (Au _)).2 (by rw [h.v])).2.1 b f hb
theorem NA.still {g g':G} {σ σ':St} (h:Still B ok0 g g' σ σ' w) {a:AV} {v:Value} {ids r:List Nat} (ha:NA (okG B ok0 g w) g σ w a v ids r):NA (okG B ok0 g' w) g' σ' w a v ids r:=by
 unfold NA at *;split at ha
 ·obtain ⟨id,b,f,gs,h1,h2,h3,h4,h6⟩:=ha;obtain ⟨f',h5⟩:=h.bx h3;exact ⟨id,b,f',gs,h1,h2,h5,h.var _ _ _ _ h4,by rw [h6];unfold Vb;rw [h.r]⟩
 ·obtain ⟨id,fz,h1,h2,FY,h3⟩:=ha;obtain ⟨fz',h4⟩:=h.arr _ _ _ _ h2;obtain ⟨_,k6,_,k8,k9⟩:=(h.ext.box id (σ.v id) (Au _)).2 (by rw [h.v]);exact ⟨id,fz',h1,h4,FY,h3.ext k6 k8 (by simp_all)⟩
 ·exact ⟨ha.1.mono λ b o hk=>(h.ext.cell b o hk).1,ha.2⟩
theorem KC.still {g g':G} {σ σ':St} (h:Still B ok0 g g' σ σ' w):∀ {l:List AV} {vs:List Value} {ids:List Nat},KC (okG B ok0 g w) g σ w l vs ids->KC (okG B ok0 g' w) g' σ' w l vs ids
 | [],[],_,ha=>ha
 | _ :: _,_ :: _,_,⟨r,h1,h2⟩=>⟨r,h1.still h,KC.still h h2⟩
 | [],_ :: _,_,ha=>ha.elim
 | _ :: _,[],_,ha=>ha.elim
theorem Still.trans {g g1 g2:G} {σ σ1 σ2:St} (h:Still B ok0 g g1 σ σ1 w) (k:Still B ok0 g1 g2 σ1 σ2 w):Still B ok0 g g2 σ σ2 w where
  ext := { cell := λ b o hk => ⟨(k.ext.cell b o (h.ext.cell b o hk).1).1, rfl⟩
           box:=λ id ver hv=>by
             obtain ⟨a1,a2⟩:=h.ext.box id ver hv;obtain ⟨b1,b2⟩:=k.ext.box id ver a1
             grind
           row:=λ id ver h0 hv=>by
             obtain ⟨a1,a2⟩:=h.ext.row id ver h0 hv;obtain ⟨b1,b2⟩:=k.ext.row id ver h0 a1
             grind }
  v:=k.v.trans h.v
  t:=k.t.trans h.t
  r:=k.r.trans h.r
  var:=λ id t x gs hc=>k.var _ _ _ _ (h.var _ _ _ _ hc)
  arr:=λ id e l f hc=>by
    obtain ⟨f1,h1⟩:=h.arr _ _ _ _ hc;exact k.arr _ _ _ _ h1
theorem ZE {id:Nat} {e:Ty} {l:List e.D} {fz:Bool} (hc:σ.c id=some (.arr e l fz)) (hx:Ext (okG B ok0 g w) (okG B ok0 g' w) g g' σ (σ.Dq id (.arr e l true)) w w):
  Still B ok0 g g' σ (σ.Dq id (.arr e l true)) w:=
 ⟨hx,rfl,rfl,rfl,λ id' t x gs EH=>by
  simp [St.Dq,B5]
  grind,λ id' e' l' f' EH=>by
  simp only [St.Dq,B5]
  grind⟩
theorem Yl6 (hI:Inv B ok0 w0 g σ a w) {T:Nat} {m:Bool} {av av':AV} {v:Value} (h:Mc E T m σ av=some (av',σ1)) (hr:RepA (okG B ok0 g w) g σ w av v):
  ∃ g',Inv B ok0 w0 g' σ1 a w/\Still B ok0 g g' σ σ1 w/\∀ r,NA (okG B ok0 g' w) g' σ1 w av' v (Zdp m av++r) r:=by
 unfold Mc at h;split at h
 ·cases h;obtain ⟨cs,h1,h2,_⟩:=hr;exact ⟨g,hI,Still.refl ..,λ r=>⟨⟨cs,h1,h2⟩,rfl⟩⟩
 ·split at h
  ·cases h;have hv:v = .slice none 0 0:=hr;subst hv;exact ⟨g,hI,Still.refl ..,λ r=>⟨⟨[.slice none 0 0],⟨none,0,0,rfl,rfl,Au _,Nat.zero_le _,λ i x hi=>by simp at hi⟩,rfl⟩,rfl⟩⟩
  simp_all
 ·rename_i id ver;cases m with
  | true=>
   split at h
   ·rename_i M0;split at h
    ·rename_i e l hc;cases FY:eK e with
     | true=>simp_all
     | false=>
     rw [FY] at h;cases h;obtain ⟨e2,l2,IG,CB,I0⟩:=hr.2 M0;rw [hc] at CB;cases CB;exact ⟨g,hI,Still.refl ..,λ r=>⟨id,false,rfl,hc,FY,I0⟩⟩
    simp_all
   simp_all
  | false=>
   simp only [Al] at h;split at h
   ·rename_i M0;have hid:id<pid0:=Nat.le_of_ble_eq_true M0.2;split at h
    ·rename_i e l fz hc;cases h;obtain ⟨e2,l2,IG,CB,I0⟩:=hr.2 M0.1;rw [hc] at CB;cases CB;rcases I0 with ⟨hn,Li,hv⟩ | ⟨b,f,cap,cur,T,ym,hb,hh,CM,hle,Ds,hv⟩
     ·obtain ⟨CG,hx⟩:=hI.iE hc hn;have YJ:l=[]:=by simp_all
      subst YJ;exact ⟨g,CG,ZE hc hx,λ r=>⟨⟨[v],by rw [hv];exact ⟨none,0,0,rfl,rfl,Au _,Nat.zero_le _,λ i x hi=>by simp at hi⟩,rfl⟩,rfl⟩⟩
     ·obtain ⟨g',GF,CG,hx,B3⟩:=hI.freeze hc hb hid;obtain ⟨_,cur',TT,y',Fz,_,BL,pT,Cj⟩:=CG.IE (c:= .arr e l true) GF (by simp [St.Dq,B5]);refine ⟨g',CG,ZE hc hx,λ r=>⟨⟨[v],?_,rfl⟩,rfl⟩⟩;rw [hv];refine ⟨_,_,_,rfl,rfl,hle,Ds,λ i x hi=>?_⟩;obtain ⟨ys,hy,CU⟩:=Cj i x hi;simp [World.cell?,AF];simp_all
    simp_all
   simp_all
 ·rename_i id ver lo n;split at h
  ·rename_i M0;have hid:id<pid0:=Nat.le_of_ble_eq_true M0.2;split at h
   ·rename_i e l fz hc;cases h;obtain ⟨e2,l2,IG,A,cap,CB,NS,Gf,Ly,hA,Mr,hp⟩:=hr.2 M0.1;rw [hc] at CB;cases Er:g.bx id with
    | none=>
     obtain ⟨CG,hx⟩:=hI.iE hc Er;have Du:n=0:=by
      simp_all
     subst Du;exact ⟨g,CG,ZE hc hx,λ r=>⟨⟨[v],by rw [hp];exact ⟨_,_,_,rfl,Ah,Gf,Ly,λ i x hi=>by simp at hi⟩,rfl⟩,rfl⟩⟩
    | some q=>
     obtain ⟨g',GF,CG,hx,B3⟩:=hI.freeze hc Er hid;obtain ⟨_,cur',TT,y',Fz,_,BL,pT,Cj⟩:=CG.IE (c:= .arr e l true) GF (by simp [St.Dq,B5]);refine ⟨g',CG,ZE hc hx,λ r=>⟨⟨[v],?_,rfl⟩,rfl⟩⟩;rw [hp];refine ⟨_,_,_,rfl,by grind,Gf,Ly,λ i x hi=>?_⟩;obtain ⟨Dc,hi'⟩:=fN hi;obtain ⟨b2,f2,DE,TQ⟩:=hA Ad;rw [Er] at DE;cases DE;obtain ⟨ys,hy,CU⟩:=Cj _ x hi';refine ⟨_,TQ,rfl,ys,hy,λ j u hj=>⟨B3 _,?_⟩⟩;simp [World.cell?]
     grind
   simp_all
  simp_all
 ·cases h;exact ⟨g,hI,Still.refl ..,λ r=>⟨hr,rfl⟩⟩
 ·cases h;exact ⟨g,hI,Still.refl ..,λ r=>⟨hr,rfl⟩⟩
 ·rename_i id ver;split at h
  ·rename_i hv;split at h
   ·rename_i t x gs hc;cases h;obtain ⟨b,f,hb,hp⟩:=hr.2 hv;exact ⟨g,hI,Still.refl ..,λ r=>⟨id,b,f,gs,rfl,hp,hb,hc,rfl⟩⟩
   simp_all
  simp_all
 simp_all
theorem yS:∀ {xs:List Operand} {σ σ1:St} {g:G} {ds:List Dat},Inv B ok0 w0 g σ a w->Np xs σ = some (ds,σ1)->
  ∃ g',Inv B ok0 w0 g' σ1 a w/\C9 (λ (d:Dat) u=>JF (okG B ok0 g' w) w d.t d.x 0 u) ds (xs.map a.eval)/\∀ b o,okG B ok0 g w b o->okG B ok0 g' w b o
 | [],σ,σ1,g,ds,hI,h=>by cases h;exact ⟨g,hI,trivial,λ _ _ hk=>hk⟩
 | x :: xs,σ,σ1,g,ds,hI,h=>by
  unfold Np at h;split at h
  ·rename_i d σ2 h1;split at h
   ·rename_i ds2 σ3 h2;cases h;have Qv:∃ g',Inv B ok0 w0 g' σ2 a w/\JF (okG B ok0 g' w) w d.t d.x 0 (a.eval x)/\∀ b o,okG B ok0 g w b o->okG B ok0 g' w b o:=by
     have rx:=EM hI x;unfold Dr at h1;split at h1
     ·rename_i id ver hx;rw [hx] at rx;have frozen:∀ (g':G) (σ':St) (t:Ty) (y:t.D),Inv B ok0 w0 g' σ' a w->σ'.c id=some (.arr t [y] true)->∀ b,g'.bx id=some (b,true)->a.eval x = .pointer (some ⟨b,0,none⟩)->
        (∀ o,okG B ok0 g' w b o)->JF (okG B ok0 g' w) w t y 0 (a.eval x):=by
       intro g' σ' t y CG EH b hb hp B3;obtain ⟨Km,cur,TT,ym,hh,Ji,BL,Ds,Cj⟩:=CG.IE hb EH;obtain ⟨ys,hr,VE⟩:=Cj 0 y rfl;exact ⟨b,0,ys,hp,hr,λ j u hj=>⟨B3 _,by simp [World.cell?];simp_all⟩⟩
      split at h1
      ·rename_i M0;have hid:id<pid0:=Nat.le_of_ble_eq_true M0.2;obtain ⟨b,f,hb,hp⟩:=rx.2 M0.1;split at h1
       ·rename_i t y gs hc;cases h1;obtain ⟨g',DE,CG,D2,B3⟩:=hI.capture hc hb hid;exact ⟨g',CG,frozen g' _ t y CG (by simp [St.Dq,B5]) b DE hp B3,λ b o hk=>(D2.cell b o hk).1⟩
       ·rename_i t y hc;cases h1;have Ny:=hI.IE hb hc;have hf:f=true:=Ny.1;subst hf;have FW:=hI.bb id b true hb;have Kn:B.n<=b:=Ad
        refine ⟨g,hI,frozen g _ t y hI hc b hb hp λ o=> .inr ⟨.inl Kn,FW.2,λ id' he=>?_,λ id' u he=>?_⟩,λ _ _ hk=>hk⟩
        ·have:=hI.bi _ _ _ _ _ he hb;simp_all
        ·exact absurd hb ((hI.rb id' b u he).2.2 id true)
       simp_all
      simp_all
     ·rename_i t y hx;rw [hx] at rx;cases h1;exact ⟨g,hI,rx,λ _ _ hk=>hk⟩
     simp_all
    obtain ⟨g2,F4,Jj,VH⟩:=Qv;obtain ⟨g3,qI,TY,hm3⟩:=yS F4 h2;exact ⟨g3,qI,⟨Jj.mono hm3,TY⟩,(by simp_all)⟩
   simp_all
  simp_all
theorem Zbx (hI:Inv B ok0 w0 g σ a w) (hd:∀ d,o.dst=some d->d<a.tmps.size) {f:Nat} {p q:Array Operand} (ho:o.op = .makeFunc (.func f) p q) (hp:p.size=0) {ds:List Dat} (hq:Np q.toList σ = some (ds,σ1)):
  DZ P B ok0 w0 (.go true (σ1.Ce o.dst (.fn f ds))) o a w:=by
 intro next Q _ hn
 have Ow:p = #[]:=by simp_all
 obtain ⟨g',CG,hr,_⟩:=yS hI hq;unfold Oper.wp;have B8:(execOp a.eval o).run P w = .ok (.value (.func (.func f) #[] (q.map a.eval))) w:=by
  unfold execOp;rw [ho,Ow];simp [Instr.makeFunc]
 rw [B8];refine hn g' _ _ (CG.put ⟨(q.map a.eval).toList,by rfl,by simp_all⟩ hd) (OR _ _ _)
theorem w9 (hI:Inv B ok0 w0 g σ a w):∀ {xs:List Operand} {ps:List (Nat×Nat)},Qo σ xs=some ps->C9 (λ (p:Nat×Nat) u=>Po g σ p.1 p.2 0 u) ps (xs.map a.eval)
 | [],ps,h=>by cases h;trivial
 | x :: xs,ps,h=>by
  unfold Qo at h;split at h
  ·rename_i id ver hx;split at h
   ·split at h
    ·rename_i l hl;cases h;have rx:=EM hI x;rw [hx] at rx;exact ⟨rx,w9 hI hl⟩
    simp_all
   simp_all
  simp_all
theorem Zf0 (hI:Inv B ok0 w0 g σ a w) (hd:∀ d,o.dst=some d->d<a.tmps.size) {f:Nat} {p q:Array Operand} (ho:o.op = .makeFunc (.func f) p q) (hp:p.size=0) {ps:List (Nat×Nat)} (hq:Qo σ q.toList=some ps):
  DZ P B ok0 w0 (put o σ (.clo f ps)) o a w:=by
 have Ow:p = #[]:=by simp_all
 refine Dx hI hd (v:= .func (.func f) #[] (q.map a.eval)) ?_ ⟨(q.map a.eval).toList,by rfl,by rw [Array.toList_map];exact w9 hI hq⟩;unfold execOp;rw [ho,Ow];simp [Instr.makeFunc]
theorem xa {σ σ':St} (h:σ'.t = σ.t):∀ (ms:List Bool) (xs:List Operand),Gw σ' ms xs=Gw σ ms xs
 | _,[]=>by rfl
 | ms,x :: xs=>by
  have:Bm σ' x=Bm σ x:=by cases x <;> first | rfl | (unfold Bm;rw [h])
  unfold Gw;rw [this,xa h ms.tail xs]
theorem jQ:∀ {ms:List Bool} {ps:List (Operand×Nat)} {σ σ1:St} {g:G} {l:List AV},Inv B ok0 w0 g σ a w->KA E ms ps σ = some (l,σ1)->
  ∃ g',Inv B ok0 w0 g' σ1 a w/\Still B ok0 g g' σ σ1 w/\KC (okG B ok0 g' w) g' σ1 w l (ps.map λ p=>a.eval p.1) (Gw σ ms (ps.map (·.1)))
 | ms,[],σ,σ1,g,l,hI,h=>by
  obtain ⟨rfl,rfl⟩:=h;exact ⟨g,hI,Still.refl ..,by rfl⟩
 | ms,(x,T) :: ps,σ,σ1,g,l,hI,h=>by
  unfold KA at h;split at h
  ·rename_i av σ2 h1;split at h
   ·rename_i l2 σ3 h2;cases h;obtain ⟨g2,F4,QO,Jj⟩:=Yl6 hI h1 (EM hI x);obtain ⟨g3,qI,hs3,TY⟩:=jQ F4 h2;rw [xa QO.t] at TY;refine ⟨g3,qI,QO.trans hs3,_,?_,TY⟩;have:=(Jj (Gw σ ms.tail (ps.map (·.1)))).still hs3;exact this
   simp_all
  simp_all
def E1 (d j n:Nat) (σ:St):St:={ σ with r:=λ i=>if CK d j<=i/\i<CK d (j+n) then σ.r i+1 else σ.r i }
def Ln (d:Nat) (σ:St):Nat->List Tag->List Tag
 | _,[]=>[]
 | j,t :: r=>if t.id=0 then t :: Ln d σ j r else ⟨t.off,CK d j,σ.r (CK d j)+1,t.sz⟩ :: Ln d σ (j+1) r
def RI (d:Nat) (σ:St):Nat->List Dat->List Dat
 | _,[]=>[]
 | j,x :: r=>⟨x.t,x.x,Ln d σ j x.g⟩ :: RI d σ (j+Hc x.g) r
def Tu (d:Nat) (σ:St) (j:Nat):Con->Con
 | .var t x g=> .var t x (Ln d σ j g)
 | c=>c
def Ls (d:Nat) (σ:St):Nat->List Con->List Con
 | _,[]=>[]
 | j,c :: r=>Tu d σ j c :: Ls d σ (j+RW c) r
theorem aF:∀ {l:List Nat},Kh l=true->∀ i j x:Nat,l[i]? = some x->l[j]? = some x->x≠0->i=j
 | [],_,i,_,_,h,_,_=>by grind
 | y :: l,h,i,j,x,hi,hj,hx=>by
  unfold Kh at h;simp [Bool.and_eq_true,Bool.or_eq_true,List.all_eq_true] at h;have hn:∀ k:Nat,l[k]? = some x->y=x->False:=λ k hk hyx=>by
   rcases h.1 with h0 | h0
   ·simp_all
   ·have:=h0 x (List.mem_of_getElem? hk);simp_all
  cases i with
  | zero=>
   grind
  | succ i=>
   cases j with
   | zero=>simp_all
   | succ j=>rw [aF h.2 i j x (by simp_all) (by simp_all) hx]
theorem yT (d j n:Nat):CK d (j+n)=CK d j+n:=by unfold CK;omega
theorem Wt (d j:Nat) (σ:St):E1 d j 0 σ = σ:=by
 unfold E1;congr 1
 grind
theorem Zh0 (d j n:Nat) (σ:St):E1 d (j+1) n (σ.C8 (CK d j))=E1 d j (n+1) σ:=by
 unfold E1 St.C8;congr 1;simp [B5,yT]
 grind
theorem gl (d:Nat) (σ:St) {j0:Nat}:∀ (g:List Tag) (j:Nat),j0<j->Ln d (σ.C8 (CK d j0)) j g=Ln d σ j g
 | [],_,_=>rfl
 | t :: r,j,h=>by
  unfold Ln;split
  ·rw [gl d σ r j h]
  ·rw [gl d σ r (j+1) Ad];simp only [St.C8,B5];rw [if_neg (by unfold CK;omega)]
theorem UM (d:Nat):∀ (g:List Tag) (j:Nat) (σ:St),Lw d g j σ = (Ln d σ j g,j+Hc g,E1 d j (Hc g) σ)
 | [],j,σ=>by simp [Lw,Ln,Hc,Wt]
 | t :: r,j,σ=>by
  unfold Lw Ln Hc;split
  ·rw [UM d r j σ]
  ·rw [UM d r (j+1) (σ.C8 (CK d j)),gl d σ r (j+1) Ad,Zh0]
   grind
theorem ZJ (d j m n:Nat) (σ:St):E1 d (j+m) n (E1 d j m σ)=E1 d j (m+n) σ:=by
 unfold E1;congr 1;simp [yT]
 grind
theorem Zx (d:Nat) (σ:St) {j0 n:Nat}:∀ (g:List Tag) (j:Nat),j0+n<=j->Ln d (E1 d j0 n σ) j g=Ln d σ j g
 | [],_,_=>rfl
 | t :: r,j,h=>by
  unfold Ln;split
  ·rw [Zx d σ r j h]
  ·rw [Zx d σ r (j+1) Ad];simp only [E1];rw [if_neg (by unfold CK;omega)]
theorem sS (d:Nat) (σ:St) {j0 n:Nat}:∀ (ds:List Dat) (j:Nat),j0+n<=j->RI d (E1 d j0 n σ) j ds=RI d σ j ds
 | [],_,_=>rfl
 | x :: r,j,h=>by
  unfold RI;rw [Zx d σ x.g j h,sS d σ r (j+Hc x.g) Ad]
theorem jP (d:Nat):∀ (ds:List Dat) (j:Nat) (σ:St),Pk d ds j σ = (RI d σ j ds,j+KH ds,E1 d j (KH ds) σ)
 | [],j,σ=>by simp [Pk,RI,KH,Wt]
 | x :: r,j,σ=>by
  unfold Pk RI KH;simp only [UM];rw [jP d r];simp [ZJ,sS d σ r (j+Hc x.g) (Au _),Nat.add_assoc]
theorem ZK (d:Nat) (σ:St) {j0 n:Nat}:∀ (ds:List Con) (j:Nat),j0+n<=j->Ls d (E1 d j0 n σ) j ds=Ls d σ j ds
 | [],_,_=>rfl
 | c :: r,j,h=>by
  unfold Ls;rw [ZK d σ r _ Ad];cases c with
  | var t x g=>
   have:Tu d (E1 d j0 n σ) j (.var t x g)=Tu d σ j (.var t x g):=by
    show Con.var t x _=Con.var t x _;rw [Zx d σ g j h]
   grind
  | _=>rfl
theorem SF (d:Nat):∀ (ds:List Con) (j:Nat) (σ:St),Lc d ds j σ = (Ls d σ j ds,j+L8 ds,E1 d j (L8 ds) σ)
 | [],j,σ=>by simp [Lc,Ls,L8,Wt]
 | .var t x g :: r,j,σ=>by
  unfold Lc Ls L8;simp only [UM];rw [SF d r];simp [ZJ,RW,Tu,ZK d σ r (j+Hc g) (Au _),Nat.add_assoc]
 | .arr e l f :: r,j,σ=>by
  unfold Lc Ls L8;rw [SF d r];simp [RW,Tu,AF,Nat.add_zero]
 | .val v :: r,j,σ=>by
  unfold Lc Ls L8;rw [SF d r];simp [RW,Tu,AF,Nat.add_zero]
theorem ZL:∀ (ids:List Nat) (ds:List Con) (σ:St),(Ic ids ds σ).t = σ.t/\(Ic ids ds σ).v = σ.v/\(Ic ids ds σ).r = σ.r
 | [],_,_=>⟨rfl,rfl,rfl⟩
 | _ :: _,[],_=>⟨rfl,rfl,rfl⟩
 | _ :: ids,_ :: ds,σ=>ZL ids ds _
theorem Wu {id:Nat}:∀ (ids:List Nat) (ds:List Con) (σ:St),id∉ids->(Ic ids ds σ).c id = σ.c id
 | [],_,_,_=>rfl
 | _ :: _,[],_,_=>rfl
 | i :: ids,d :: ds,σ,h=>by
  unfold Ic;rw [Wu ids ds _ (by simp_all)];simp [St.Dq,B5];simp_all
def Y9 (ok:Nat->Nat->Prop) (g:G) (r:Nat->Nat) (w:World) (c:Con) (b:Nat):Prop:=
 match c with
 | .var t x gs=>∃ cs T,w.heap[b]? = some (.cells cs.toArray T (0,0))/\RepD ok w t x cs/\Xi b t T cs/\IB g r w gs cs
 | .arr e l f=>f=false/\∃ cur T y,w.heap[b]? = some (.cells cur T y)/\Mk e y cur.size/\List.length (α:=e.D) l*e.sz<=cur.size/\List.length (α:=e.D) l<=maxLen/\K8 ok w e l cur
 | .val _=>False
def eC (ok:Nat->Nat->Prop) (g:G) (r:Nat->Nat) (w:World) (ds:List Con) (bs:List Nat):Prop:=C9 (Y9 ok g r w) ds bs
theorem Y9.con {ok:Nat->Nat->Prop} {τ:St} {c:Con} {b:Nat} (h:Y9 ok g τ.r w c b):ConOk ok g τ w b false c:=by
 cases c with
 | var t x gs=>exact ⟨rfl,h⟩
 | arr e l f=>obtain ⟨rfl,h⟩:=h;exact ⟨rfl,h⟩
 | val v=>exact h.elim
theorem gW {ok:Nat->Nat->Prop} {r:Nat->Nat} {R:Nat->Nat->Prop} {id:Nat}:∀ {ids bs:List Nat} {ds:List Con} {σ:St},eC ok g r w ds bs->C9 R ids bs->ids.Nodup->id∈ids->
  ∃ (d:Con) (b:Nat),R id b/\(Ic ids ds σ).c id=some d/\Y9 ok g r w d b
 | [],_,_,_,_,_,_,h=>by grind
 | _ :: _,[],_,_,_,h,_,_=>h.elim
 | _ :: _,_ :: _,[],_,h,_,_,_=>h.elim
 | i :: ids,b :: bs,d :: ds,σ,hi,ha,hn,hm=>by
  rcases List.mem_cons.1 hm with rfl | hm
  ·refine ⟨d,b,ha.1,?_,hi.1⟩;unfold Ic;rw [Wu ids ds _ (by simp_all)];simp [St.Dq,B5]
  ·exact gW (ds:=ds) (σ:=σ.Dq i d) hi.2 ha.2 (by simp_all) hm
theorem Z8 {id:Nat} {d:Con}:∀ {ids:List Nat} {ds:List Con} {σ:St} {k:Nat},ids.Nodup->ids[k]? = some id->ds[k]? = some d->(Ic ids ds σ).c id=some d
 | [],_,_,_,_,h,_=>by grind
 | _ :: _,[],_,_,_,_,h=>by grind
 | i :: ids,e :: ds,σ,0,hn,h1,h2=>by
  simp [List.getElem?_cons_zero,Option.some.injEq] at h1 h2;subst h1 h2;unfold Ic;rw [Wu ids ds _ (by simp_all)];simp [St.Dq,B5]
 | i :: ids,e :: ds,σ,k+1,hn,h1,h2=>by
  exact Z8 (σ:=σ.Dq i e) (by simp_all) h1 h2
def Oh (σ:St) (ids:List Nat) (ds:List Con):Prop:=∀ (k id:Nat) (e:Ty) (l:List e.D) (fz:Bool),ids[k]? = some id->σ.c id=some (.arr e l fz)->∃ l',ds[k]? = some (.arr e l' false)/\List.length (α:=e.D) l'=List.length (α:=e.D) l
theorem C9.right {α β:Type} {p:α->β->Prop}:∀ {l:List α} {m:List β} {b:β},C9 p l m->b∈m->∃ a,a∈l/\p a b
 | a :: _,_ :: _,_,h,hm=>by
  rcases List.mem_cons.1 hm with rfl | hm
  ·exact ⟨a,Ah,h.1⟩
  ·obtain ⟨x,h1,h2⟩:=C9.right h.2 hm;grind
 | [],[],_,_,hm=>by grind
 | [],_ :: _,_,h,_=>h.elim
 | _ :: _,[],_,h,_=>h.elim
theorem C9.left {α β:Type} {p:α->β->Prop}:∀ {l:List α} {m:List β} {a:α},C9 p l m->a∈l->∃ b,b∈m/\p a b
 | _ :: _,b :: _,_,h,hm=>by
  rcases List.mem_cons.1 hm with rfl | hm
  ·exact ⟨b,Ah,h.1⟩
  ·obtain ⟨x,h1,h2⟩:=C9.left h.2 hm;grind
 | [],_,_,_,hm=>by grind
 | _ :: _,[],_,h,_=>h.elim
theorem Inv.Zco (hI:Inv B ok0 w0 g σ a w) {b o id:Nat} (hk:okG B ok0 g w b o):g.bx id≠some (b,false):=by
 intro he;rcases hk with hk | ⟨_,_,h3,_⟩
 ·obtain ⟨h1,h2⟩:=hI.h0 b o hk;rcases (hI.bb id b false he).1 with h | h
  all_goals grind
 simp_all
theorem Inv.Zdo (hI:Inv B ok0 w0 g σ a w) {b o id u:Nat} (hk:okG B ok0 g w b o) (hr:g.rw id=some (b,u)):o<u:=by
 rcases hk with hk | ⟨_,_,_,h4⟩
 ·obtain ⟨h1,_,h3⟩:=hI.h0 b o hk;rcases (hI.rb id b u hr).1 with h | ⟨u0,h,hle⟩
  all_goals grind
 grind
theorem gS:∀ (hs:List Nat) (σ:St),(EC hs σ).t = σ.t/\(EC hs σ).v = σ.v/\(EC hs σ).c = σ.c/\∀ i,(i∉hs->(EC hs σ).r i = σ.r i)/\(i∈hs->σ.r i<(EC hs σ).r i)
 | [],σ=>⟨rfl,rfl,rfl,λ i=>⟨λ _=>rfl,Ah⟩⟩
 | j :: hs,σ=>by
  obtain ⟨h1,h2,h3,h4⟩:=gS hs (σ.C8 j);refine ⟨h1,h2,h3,λ i=>⟨λ hn=>?_,λ hm=>?_⟩⟩
  ·show (EC hs (σ.C8 j)).r i=_;rw [(h4 i).1 λ h=>hn (AP _ h)];simp [St.C8,B5];simp_all
  ·show _<(EC hs (σ.C8 j)).r i;by_cases hi:i∈hs
   ·have h5:=(h4 i).2 hi;have h6:σ.r i<=(σ.C8 j).r i:=by
     simp [St.C8,B5]
     grind
    omega
   ·rw [(h4 i).1 hi];rcases List.mem_cons.1 hm with rfl | hm
    ·simp [St.C8,B5]
    simp_all
def Handed (g:G) (w:World) (hs:List Nat) (rws:List (Option (Nat×Nat))):Prop:=C9 (λ i q=>∀ b u,q=some (b,u)->i≠0/\g.rw i=some (b,u)/\∃ cur T,w.heap[b]? = some (.cells cur T (0,0))) hs rws
theorem Z9 (hI:Inv B ok0 w0 g σ a w) {bs ids:List Nat} {rws:List (Option (Nat×Nat))} {hs:List Nat} (hb:BelowX ⟨w.heap.size,bs,rws⟩ w w') {ρ:Nat->Option (Nat×Nat)}
    (h1:∀ j b u,ρ j=some (b,u)->(w.heap.size<=b\/∃ u0,some (b,u0)∈rws/\u0<=u)/\b<w'.heap.size)
    (h2:∀ j k b u u',ρ j=some (b,u)->ρ k=some (b,u')->j=k) (IF:C9 (λ id b=>g.bx id=some (b,false)) ids bs) (Iw:ids.Nodup) (Fg:Handed g w hs rws) {ds:List Con} (Mm:Oh σ ids ds) (d N:Nat)
    (LK:∀ g':G,(∀ j,j<N->g'.rw (CK d j) = ρ j)->(∀ b o,Df (okG B ok0 g w) w w' rws ρ b o->okG B ok0 g' w' b o)->eC (okG B ok0 g' w') g' (E1 d 0 N (EC hs σ)).r w' ds bs):
    ∃ g',Inv B ok0 w0 g' (Ic ids ds (E1 d 0 N (EC hs σ))) a w'/\(∀ b o,Df (okG B ok0 g w) w w' rws ρ b o->okG B ok0 g' w' b o)/\(∀ j,j<N->g'.rw (CK d j) = ρ j)/\g'.bx=g.bx:=by
  obtain ⟨st,sv,sr⟩:=ZL ids ds (E1 d 0 N (EC hs σ));obtain ⟨bt,bv,bc,br⟩:=gS hs σ;have TX:B.n<=w.heap.size:=by have:=hI.below.size;have:=hI.hB;omega
  have BL:=hb.size;have Vl:∀ b u,some (b,u)∈rws->∃ i,i∈hs/\g.rw i=some (b,u):=λ b u hm=>by
    obtain ⟨i,h3,h4⟩:=Fg.right hm
    grind
  have oQ:∀ k,k<w.heap.size->k∉bs->(∀ u,some (k,u)∉rws)->w'.heap[k]? = w.heap[k]?:=hb.block;have Xce:∀ b o,okG B ok0 g w b o->b∉bs:=λ b o hk hm=>by
    obtain ⟨id,_,he⟩:=IF.right hm;exact hI.Zco hk he
  have Dc:∀ {id b f},g.bx id=some (b,f)->b∈bs->id∈ids:=λ he hm=>by
    obtain ⟨id',h3,h4⟩:=IF.right hm;exact hI.bi _ _ _ _ _ he h4 ▸ h3
  have Y0:∀ {id b f},g.bx id=some (b,f)->∀ u,some (b,u)∉rws:=λ he u hm=>by
    obtain ⟨i,_,h4⟩:=Vl _ u hm;exact (hI.rb i _ u h4).2.2 _ _ he
  have D0:∀ b o,okG B ok0 g w b o->w'.cell? ⟨b,o,none⟩=w.cell? ⟨b,o,none⟩:=λ b o hk=>by
    by_cases hm:∃ u,some (b,u)∈rws
    · obtain ⟨u,hm⟩:=hm;obtain ⟨i,_,h4⟩:=Vl b u hm;have ho:=hI.Zdo hk h4;have AY:=(hI.rb i b u h4).2.1;obtain ⟨_,_,h5⟩:=Fg.right hm;obtain ⟨_,_,cur,T,OA⟩:=h5 b u rfl;obtain ⟨cur',z,k1,k2,k3⟩:=hb.rowc b u cur T (0,0) hm AY OA;simp [World.cell?,k1]
      grind
    · unfold World.cell?;simp [oQ b (hI.okB hk) (Xce b o hk) λ u hu=>hm ⟨u,hu⟩]
  let ρ':Nat->Option (Nat×Nat):=λ i=>if CK d 0<=i/\i<CK d (0+N) then ρ (i-CK d 0) else if i∈hs then none else g.rw i
  have hρ':∀ i b u,ρ' i=some (b,u)->(ρ (i-CK d 0)=some (b,u)/\CK d 0<=i/\i<CK d (0+N))\/(g.rw i=some (b,u)/\i∉hs):=by
    grind
  have ez:∀ i b u u0,g.rw i=some (b,u)->i∉hs->some (b,u0)∉rws:=λ i b u u0 hi hn hm=>by
    obtain ⟨i',h3,h4⟩:=Vl b u0 hm;exact hn (hI.ri _ _ _ _ _ hi h4 ▸ h3)
  have RS:∀ b o,Df (okG B ok0 g w) w w' rws ρ b o->okG B ok0 ⟨g.bx,ρ'⟩ w' b o:=by
    intro b o hk;rcases hk with hk | ⟨q1,q2,q3⟩
    · rcases hk with hk | ⟨q1,q2,q3,q4⟩
      · exact .inl hk
      · refine .inr ⟨q1,Ad,q3,λ id u he=>?_⟩
        grind
    · refine .inr ⟨?_,q2,λ id he=>?_,λ id u he=>?_⟩
      · rcases q1 with q1 | ⟨u,q1⟩
        · exact .inl Ad
        · obtain ⟨i,_,h4⟩:=Vl b u q1;rcases (hI.rb i b u h4).1 with h5 | ⟨u0,h5,_⟩
          · exact .inl h5
          · exact .inr ⟨u0,h5⟩
      · rcases q1 with q1 | ⟨u,q1⟩
        · have:=(hI.bb id b false he).2;omega
        grind
      · rcases hρ' id b u he with ⟨h,_⟩ | ⟨h,hn⟩
        · grind
        · rcases q1 with q1 | ⟨u0,q1⟩
          · have:=(hI.rb id b u h).2.1;omega
          grind
  have TY:∀ id,id≠0->(E1 d 0 N (EC hs σ)).r id = σ.r id->ρ' id=g.rw id:=by
    intro id h0 he;simp [E1] at he
    grind
  have Xri:∀ id,σ.r id<=(E1 d 0 N (EC hs σ)).r id:=by
    intro id;simp [E1]
    grind
  have hrk:∀ id b u,id≠0->(E1 d 0 N (EC hs σ)).r id = σ.r id->g.rw id=some (b,u)->∀ u0,some (b,u0)∉rws:=by
    intro id b u h0 he hh u0;refine ez id b u u0 hh λ hm=>?_
    simp [E1] at he
    grind
  have Kb:∀ j,j<N->ρ' (CK d j) = ρ j:=λ j hj=>by
    simp only [ρ'];rw [if_pos (by unfold CK;omega)];congr 1;unfold CK;omega
  have Fy:=LK ⟨g.bx,ρ'⟩ Kb RS;have hx:Ext (okG B ok0 g w) (okG B ok0 ⟨g.bx,ρ'⟩ w') g ⟨g.bx,ρ'⟩ σ (Ic ids ds (E1 d 0 N (EC hs σ))) w w':=
    { cell := λ b o hk => ⟨RS b o (.inl hk), D0 b o hk⟩
      box:=λ id ver hv=>by
        rw [sv];show ver<=(EC hs σ).v id/\((EC hs σ).v id=ver->_);rw [bv];refine ⟨hv,λ he=>⟨he,λ b f hh=>⟨f,hh⟩,λ e l fz hc=>?_,λ hn=>hn,λ b f cur T ym hc Dk hh=>?_⟩⟩
        · by_cases hm:id∈ids
          · obtain ⟨k,hk⟩:=List.mem_iff_getElem?.1 hm;obtain ⟨l',h1,h2⟩:=Mm k id e l fz hk hc;exact ⟨l',false,Z8 Iw hk h1,h2⟩
          · refine ⟨l,fz,?_,rfl⟩;rw [Wu ids ds _ hm];show (EC hs σ).c id=_
            grind
        · by_cases hm:b∈bs
          · obtain ⟨e,l,fz,hc⟩:=hc;have eJ:=Dc Dk hm;obtain ⟨k,hk⟩:=List.mem_iff_getElem?.1 eJ;obtain ⟨l',h1,_⟩:=Mm k id e l fz hk hc;obtain ⟨q,b',GF,EH,hq⟩:=gW (σ:=E1 d 0 N (EC hs σ)) Fy IF Iw eJ;rw [Z8 Iw hk h1] at EH;cases EH;rw [Dk] at GF;obtain ⟨Xsi,z,q2,q3⟩:=hb.ioc b cur T _ hm (by grind) hh
            grind
          grind
      row:=λ id ver h0 hv=>by
        rw [sr];refine ⟨(by grind),λ he=>?_⟩;have he2:(E1 d 0 N (EC hs σ)).r id = σ.r id:=by grind
        refine ⟨Ad,λ b u hh=>⟨?_,oQ b (hI.rb id b u hh).2.1 (λ hm=>?_) (by grind)⟩⟩
        · grind
        · obtain ⟨id',_,h4⟩:=IF.right hm
          exact (hI.rb id b u hh).2.2 id' false h4 }
  refine ⟨⟨g.bx,ρ'⟩,?_,RS,Kb,rfl⟩
  exact {
      below:=hI.below.Ygg hb TX (λ x hm=>by
        obtain ⟨id,_,h4⟩:=IF.right hm;rcases (hI.bb id x false h4).1 with h | h
        · grind
        · exact ⟨.inr h.1,λ u _ hq=>(hI.hR x u hq).2.1 h.1⟩) (λ x u hm=>by
        obtain ⟨i,_,h4⟩:=Vl x u hm;rcases (hI.rb i x u h4).1 with h | ⟨u0,h,hle⟩
        · exact ⟨.inl h,λ u0 AY=>by omega⟩
        · exact ⟨.inr ⟨u0,h⟩,λ u1 _ hq=>by rw [(hI.hR x u0 h).2.2 u1 hq];omega⟩)
      hB:=hI.hB,h0:=hI.h0,hR:=hI.hR,defers:=hI.defers,lay:=hI.lay,tm:=hI.tm,nm:=hI.nm
      bb:=λ id b f Dk=>⟨(hI.bb id b f Dk).1,Nat.lt_of_lt_of_le (hI.bb id b f Dk).2 BL⟩
      bi:=hI.bi
      rb:=λ id b u hh=>by
        rcases hρ' id b u hh with ⟨h,_⟩ | ⟨h,_⟩
        · obtain ⟨q1,q2⟩:=h1 _ _ _ h;rcases q1 with q1 | ⟨u0,q1,q3⟩
          · exact ⟨.inl Ad,q2,λ id' f he=>by have:=(hI.bb id' b f he).2;omega⟩
          · obtain ⟨i,_,h4⟩:=Vl b u0 q1;rcases (hI.rb i b u0 h4).1 with h5 | ⟨u1,h5,h6⟩
            all_goals grind
        · obtain ⟨q1,q2,q3⟩:=hI.rb id b u h;exact ⟨q1,Ad,q3⟩
      ri:=λ id id' b u u' e1 e2=>by
        have Xde:∀ i j u u',ρ j=some (b,u)->g.rw i=some (b,u')->i∉hs->False:=λ i j u u' k1 k2 k3=>by
          rcases (h1 _ _ _ k1).1 with h5 | ⟨u0,h5,_⟩
          · have:=(hI.rb _ _ _ k2).2.1;omega
          · exact ez i b u' u0 k2 k3 h5
        rcases hρ' id b u e1 with ⟨k1,k2⟩ | ⟨k1,k2⟩
        · rcases hρ' id' b u' e2 with ⟨k3,k4⟩ | ⟨k3,k4⟩
          · have:=h2 _ _ _ _ _ k1 k3;omega
          · exact (Xde _ _ _ _ k1 k3 k4).elim
        · rcases hρ' id' b u' e2 with ⟨k3,k4⟩ | ⟨k3,k4⟩
          · grind
          · exact hI.ri _ _ _ _ _ k1 k3
      con:=λ id c hc=>by
        by_cases hm:id∈ids
        · obtain ⟨q,b,GF,EH,hq⟩:=gW (σ:=E1 d 0 N (EC hs σ)) Fy IF Iw hm;rw [EH] at hc;cases hc;exact .inr ⟨b,false,GF,Y9.con (τ:=Ic ids ds (E1 d 0 N (EC hs σ))) (by rw [sr];exact hq)⟩
        · rw [Wu ids ds _ hm] at hc;have CB:(EC hs σ).c id=some c:=hc;rw [bc] at CB;rcases hI.con id c CB with hn | ⟨b,f,Dk,hk⟩
          · exact .inl hn
          exact .inr ⟨b,f,Dk,hk.ext hx (oQ b (hI.bb id b f Dk).2 (λ ql=>hm (Dc Dk ql)) (Y0 Dk))⟩
      slots:=λ t=>by
        rw [st];show RepA _ _ _ _ ((EC hs σ).t t) _;rw [bt]
        exact (hI.slots t).ext hx }
theorem Wv {ρ:Nat->Option (Nat×Nat)} {cs:List Value} {d N:Nat} (GK:∀ j,j<N->g'.rw (CK d j) = ρ j):∀ (g:List Tag) (j:Nat),j+Hc g<=N->Qa ρ w' cs j g->
  IB g' (E1 d 0 N σ).r w' (Ln d σ j g) cs
 | [],j,_,_=>λ t ht=>by cases ht
 | t :: r,j,hN,h=>by
  intro τ hτ;unfold Qa at h;unfold Ln at hτ;unfold Hc at hN;split at h
  ·rename_i h0;rw [if_pos h0] at hτ hN;rcases List.mem_cons.1 hτ with rfl | hτ
   ·exact ⟨λ _=>h.1,λ hn=>absurd h0 hn⟩
   ·exact Wv GK r j hN h.2 τ hτ
  ·rename_i h0;rw [if_neg h0] at hτ hN;rcases List.mem_cons.1 hτ with rfl | hτ
   ·have Dc:CK d 0<=CK d j/\CK d j<CK d (0+N):=by unfold CK;omega
    refine ⟨λ hz=>absurd hz (UY d j),λ _=>⟨by simp only [E1,if_pos Dc];omega,λ _=>?_⟩⟩;rcases h.1 with hv | ⟨b,n,cap,cur,T,hv,hr,rest⟩
    ·exact .inl hv
    ·exact .inr ⟨b,n,cap,cur,T,hv,by grind,rest⟩
   ·exact Wv GK r (j+1) Ad h.2 τ hτ
theorem K8.mono {ok ok':Nat->Nat->Prop} (hm:∀ b o,ok b o->ok' b o) {e:Ty} {l:List e.D} {cur:Array Value} (h:K8 ok w e l cur):K8 ok' w e l cur:=λ i x hi=>by
 obtain ⟨ys,h1,h2⟩:=h i x hi;exact ⟨ys,h1.mono (by simp_all),h2⟩
theorem oR {ok ok':Nat->Nat->Prop} {ρ:Nat->Option (Nat×Nat)} {d N:Nat} {τ:St} (GK:∀ j,j<N->g'.rw (CK d j) = ρ j) (B3:∀ b o,ok b o->ok' b o):∀ (ds:List Con) (bs:List Nat) (j:Nat),j+L8 ds<=N->MP ok ρ w' j ds bs->
  eC ok' g' (E1 d 0 N τ).r w' (Ls d τ j ds) bs
 | [],[],_,_,_=>trivial
 | x :: ds,b :: bs,j,hN,⟨h,h5⟩=>by
  unfold L8 at hN;refine ⟨?_,oR GK B3 ds bs _ Ad h5⟩;cases x with
  | var t x g=>
   obtain ⟨cs,T,h1,h2,h3,h4⟩:=h;exact ⟨cs,T,h1,h2.mono (by simp_all),h3,Wv GK g j (by have:RW (Con.var t x g)=Hc g:=rfl;omega) h4⟩
  | arr e l f=>
   obtain ⟨hf,cur,T,y,h1,hy,h2,h3,h4⟩:=h;exact ⟨hf,cur,T,y,h1,hy,h2,h3,h4.mono B3⟩
  | val v=>exact h.elim
 | [],_ :: _,_,_,h=>h.elim
 | _ :: _,[],_,_,h=>h.elim
theorem jR {ok ok':Nat->Nat->Prop} {ρ:Nat->Option (Nat×Nat)} {r:Nat->Nat} (B3:∀ b o,ok b o->ok' b o):∀ (ds:List Con) (bs:List Nat) (j:Nat),MP ok ρ w' j ds bs->eC ok' g' r w' (ds.map SY) bs
 | [],[],_,_=>trivial
 | x :: ds,b :: bs,j,⟨h,h5⟩=>by
  refine ⟨?_,jR B3 ds bs _ h5⟩;cases x with
  | var t x g=>
   obtain ⟨cs,T,h1,h2,h3,_⟩:=h;exact ⟨cs,T,h1,h2.mono (by simp_all),h3,λ _ h=>by cases h⟩
  | arr e l f=>
   obtain ⟨hf,cur,T,y,h1,hy,h2,h3,h4⟩:=h;exact ⟨hf,cur,T,y,h1,hy,h2,h3,h4.mono B3⟩
  | val v=>exact h.elim
 | [],_ :: _,_,h=>h.elim
 | _ :: _,[],_,h=>h.elim
theorem xb {F:Nat->Con->Con} (hF:∀ j e l z,F j (.arr e l z) = .arr e l z):∀ {ds:List Con} {k:Nat} {e:Ty} {l:List e.D} {z:Bool} (G:Nat->List Con->List Con) (j:Nat),(∀ j c r,∃ j',G j (c :: r)=F j c :: G j' r)->ds[k]? = some (.arr e l z)->(G j ds)[k]? = some (.arr e l z)
 | [],_,_,_,_,_,_,_,h=>by grind
 | c :: ds,0,e,l,z,G,j,hG,h=>by
  simp [List.getElem?_cons_zero,Option.some.injEq] at h;obtain ⟨j',e'⟩:=hG j (.arr e l z) ds
  grind
 | c :: ds,k+1,e,l,z,G,j,hG,h=>by
  obtain ⟨j',e'⟩:=hG j c ds;rw [e'];exact xb hF G j' hG h
theorem Oh.Ls {ids:List Nat} {ds:List Con} (h:Oh σ ids ds) (d:Nat) (τ:St) (j:Nat):Oh σ ids (Ls d τ j ds):=λ k id e l fz h1 h2=>by
 obtain ⟨l',h3,h4⟩:=h k id e l fz h1 h2;exact ⟨l',xb (F:=λ j c=>Tu d τ j c) (λ _ _ _ _=>rfl) (Go.AM.Ls d τ) j (λ j c r=>⟨j+RW c,rfl⟩) h3,h4⟩
theorem Oh.bare {ids:List Nat} {ds:List Con} (h:Oh σ ids ds):Oh σ ids (ds.map SY):=λ k id e l fz h1 h2=>by
 obtain ⟨l',h3,h4⟩:=h k id e l fz h1 h2;exact ⟨l',by rw [List.getElem?_map,h3];rfl,h4⟩
theorem ju:∀ l m:List AV,EF l m=l++m
 | [],_=>rfl
 | a :: l,m=>by unfold EF;rw [ju l m];rfl
theorem C9.append {α β:Type} {p:α->β->Prop}:∀ {l l':List α} {m m':List β},C9 p l m->C9 p l' m'->C9 p (l++l') (m++m')
 | [],_,[],_,_,h=>h
 | _ :: _,_,_ :: _,_,h,h'=>⟨h.1,C9.append h.2 h'⟩
 | [],_,_ :: _,_,h,_=>h.elim
 | _ :: _,_,[],_,h,_=>h.elim
theorem Wi:∀ {ids:List Nat},KY σ ids=true->ids.Nodup/\∀ id∈ids,(∃ t x gs,σ.c id=some (.var t x gs))\/∃ e l,σ.c id=some (.arr e l false)
 | [],_=>Ah
 | id :: r,h=>by
  unfold KY at h;rw [Bool.and_eq_true,Bool.and_eq_true] at h;obtain ⟨⟨h1,h2⟩,h3⟩:=h;obtain ⟨k1,k2⟩:=Wi h3;refine ⟨List.nodup_cons.2 ⟨λ hm=>?_,k1⟩,λ i hi=>?_⟩
  ·have:=List.all_eq_true.1 h2 id hm;simp_all
  grind
theorem C9.app {α β:Type} {p:α->β->Prop} {l l':List α} {m m':List β} (h:C9 p l m) (h':C9 p l' m'):C9 p (l++l') (m++m'):=C9.append h h'
theorem C9.eD {α β:Type} {p:α->β->Prop}:∀ {l:List α} {m:List β} {i:Nat} {b:β},C9 p l m->m[i]? = some b->∃ a,l[i]? = some a/\p a b
 | a :: _,b :: _,0,_,h,hi=>by simp at hi;subst hi;exact ⟨a,rfl,h.1⟩
 | _ :: _,_ :: _,i+1,_,h,hi=>by
  simp [List.getElem?_cons_succ] at hi ⊢;exact C9.eD h.2 hi
 | [],[],i,_,_,hi=>by simp_all
 | [],_ :: _,_,_,h,_=>h.elim
 | _ :: _,[],_,_,h,_=>h.elim
theorem yU {gs:List Tag} {cs:List Value} (ht:IB g σ.r w gs cs):∀ (h:List Tag),(∀ τ∈h,τ∈gs/\(τ.id=0\/σ.r τ.id = τ.ver))->∀ r,∃ Sc,UX w cs h (Sc++r) r/\Handed g w (h.map (·.id)) Sc
 | [],_,r=>⟨[],rfl,trivial⟩
 | τ :: h,hm,r=>by
  obtain ⟨Sc,h1,h2⟩:=yU ht h (by simp_all) r;obtain ⟨hg,hv⟩:=hm τ (AI ..);obtain ⟨k1,k2⟩:=ht τ hg;by_cases h0:τ.id=0
  ·exact ⟨none :: Sc,⟨none,_,rfl,h1,k1 h0⟩,Ah,h2⟩
  ·rcases hv with hv | hv
   ·simp_all
   ·rcases (k2 h0).2 hv with k3 | ⟨b,n,cap,cur,T,k3,k4,k5,k6,k7,k8⟩
    ·exact ⟨none :: Sc,⟨none,_,rfl,h1,k3⟩,Ah,h2⟩
    ·exact ⟨some (b,n*Pj τ.sz) :: Sc,⟨_,_,rfl,h1,n,cap,cur,T,k3,rfl,k5,k6,k7,k8⟩,(by simp_all),h2⟩
theorem Zp4 {gs:List Tag}:∀ τ∈Vb σ gs,τ∈gs/\(τ.id=0\/σ.r τ.id = τ.ver):=λ τ h=>by
 unfold Vb at h;simp_all
theorem dC (hI:Inv B ok0 w0 g σ a w):∀ {l:List AV} {vs:List Value} {ids:List Nat},KC (okG B ok0 g w) g σ w l vs ids->Od l=true->(∀ id∈ids,(∃ t x gs,σ.c id=some (.var t x gs))\/∃ e l,σ.c id=some (.arr e l false))->
  ∃ bs rws,L3 (okG B ok0 g w) w l vs bs rws/\C9 (λ id b=>g.bx id=some (b,false)) ids bs/\Handed g w (Gq l) rws
 | [],[],_,h,_,_=>by cases h;exact ⟨[],[],⟨rfl,rfl⟩,trivial,trivial⟩
 | av :: l,v :: vs,ids,⟨r,h1,h2⟩,QJ,Py=>by
  by_cases hq:∃ t x h,av = .iov t x h
  ·obtain ⟨t,x,h,rfl⟩:=hq;obtain ⟨id,b,f,gs,rfl,hv,hb,hc,hh⟩:=h1;obtain ⟨bs,rws,k1,k2,k3⟩:=dC hI h2 QJ (by simp_all);obtain ⟨rfl,cs,T,hw,hr,PA,TR⟩:=hI.IE hb hc;obtain ⟨Sc,q1,q2⟩:=yU TR h (by rw [hh];exact Zp4) rws;exact ⟨b :: bs,Sc++rws,⟨bs,rws,⟨b,rfl,hv,cs,T,hw,hr,PA,q1⟩,k1⟩,⟨hb,k2⟩,C9.app q2 k3⟩
  by_cases VV:∃ e l,av = .ioa e l
  ·obtain ⟨e,x,rfl⟩:=VV;obtain ⟨id,fz,rfl,hc,FY,I0⟩:=h1;have Zrq:(decide (0<List.length (α:=e.D) x) && Od l)=true:=QJ;rw [Bool.and_eq_true] at Zrq;obtain ⟨bs,rws,k1,k2,k3⟩:=dC hI h2 Zrq.2 (by simp_all);have IW:0<List.length (α:=e.D) x:=by simp_all
   have hfz:fz=false:=by
    simp_all
   subst hfz;rcases I0 with ⟨_,h0,_⟩ | ⟨b,f,cap,cur,T,ym,hb,hh,CM,hle,Ds,hv⟩
   ·omega
   ·obtain ⟨hf,cur',T',y',Fz,Ji,_,_,Cj⟩:=hI.IE hb hc;subst hf;rw [hh] at Fz;cases Fz;have NF:ym=(0,0):=by
     rcases Ji with h | ⟨h,_⟩
     all_goals simp_all
    subst NF;exact ⟨b :: bs,rws,⟨bs,rws,⟨b,cap,_,_,rfl,rfl,hv,hh,CM,hle,Ds,IW,Cj⟩,k1⟩,⟨hb,k2⟩,k3⟩
  have e1:∀ i r,NA (okG B ok0 g w) g σ w av v i r=(O3 (okG B ok0 g w) w av v/\i=r):=by
   unfold NA;simp_all
  have e2:∀ i r s s',Yd (okG B ok0 g w) w av v i r s s'=(O3 (okG B ok0 g w) w av v/\i=r/\s=s'):=by
   unfold Yd;simp_all
  have e3:Gq (av :: l)=Gq l:=by
   cases av with
   | iov t x h=>simp_all
   | _=>rfl
  have e4:Od (av :: l)=Od l:=by
   cases av with
   | ioa e x=>simp_all
   | _=>rfl
  rw [e1] at h1;rw [e4] at QJ;obtain ⟨h1,rfl⟩:=h1;obtain ⟨bs,rws,k1,k2,k3⟩:=dC hI h2 QJ Py;exact ⟨bs,rws,⟨bs,rws,by rw [e2];exact ⟨h1,rfl,rfl⟩,k1⟩,k2,by simp_all⟩
 | [],_ :: _,_,h,_,_=>h.elim
 | _ :: _,[],_,h,_,_=>h.elim
theorem Yoz (hI:Inv B ok0 w0 g σ a w) {ids bs hs:List Nat} {rws:List (Option (Nat×Nat))} (IF:C9 (λ id b=>g.bx id=some (b,false)) ids bs) (hr:Handed g w hs rws) (hd:Kh hs=true):bN w bs rws:=by
 refine ⟨λ i j b u u' h1 h2=>?_,λ b u hm=>?_⟩
 ·obtain ⟨x,k1,k2⟩:=hr.eD h1;obtain ⟨y,k3,k4⟩:=hr.eD h2;obtain ⟨k5,k6,_⟩:=k2 b u rfl;obtain ⟨_,k7,_⟩:=k4 b u' rfl;have:=hI.ri _ _ _ _ _ k6 k7;subst this;exact aF hd i j x k1 k3 k5
 ·obtain ⟨x,_,k2⟩:=hr.right hm;obtain ⟨_,k6,_⟩:=k2 b u rfl;obtain ⟨_,h2,h3⟩:=hI.rb x b u k6;refine ⟨h2,λ hb=>?_⟩;obtain ⟨id,_,he⟩:=IF.right hb;simp_all
theorem xc (hI:Inv B ok0 w0 g σ a w):∀ {ids bs:List Nat},C9 (λ id b=>g.bx id=some (b,false)) ids bs->ids.Nodup->bs.Nodup
 | [],[],_,_=>List.nodup_nil
 | id :: ids,b :: bs,h,hn=>by
  refine List.nodup_cons.2 ⟨λ hm=>?_,xc hI h.2 (by simp_all)⟩;obtain ⟨id',h1,h2⟩:=C9.right h.2 hm;exact (List.nodup_cons.1 hn).1 (hI.bi _ _ _ _ _ h.1 h2 ▸ h1)
 | [],_ :: _,h,_=>h.elim
 | _ :: _,[],h,_=>h.elim
theorem NA.more {ok:Nat->Nat->Prop} {av:AV} {v:Value} {ids r:List Nat} (s:List Nat) (h:NA ok g σ w av v ids r):NA ok g σ w av v (ids++s) (r++s):=by
 unfold NA at *
 grind
theorem KC.append {ok:Nat->Nat->Prop}:∀ {l l':List AV} {vs vs':List Value} {ids Zsq:List Nat},KC ok g σ w l vs ids->KC ok g σ w l' vs' Zsq->KC ok g σ w (l++l') (vs++vs') (ids++Zsq)
 | [],_,[],_,_,_,h,h'=>by cases h;grind
 | _ :: _,_,_ :: _,_,_,_,⟨r,h1,h2⟩,h'=>⟨_,h1.more _,KC.append h2 h'⟩
 | [],_,_ :: _,_,_,_,h,_=>h.elim
 | _ :: _,_,[],_,_,_,h,_=>h.elim
theorem tI {ok:Nat->Nat->Prop}:∀ {ds:List Dat} {us:List Value},C9 (λ (d:Dat) u=>JF ok w d.t d.x 0 u) ds us->KC ok g σ w (Jb ds) us []
 | [],[],_=>rfl
 | _ :: _,_ :: _,h=>⟨_,⟨h.1,rfl⟩,tI h.2⟩
 | [],_ :: _,h=>h.elim
 | _ :: _,[],h=>h.elim
theorem uO {ok:Nat->Nat->Prop}:∀ {ps:List (Nat×Nat)} {us:List Value} {cs:List AV},C9 (λ (p:Nat×Nat) u=>Po g σ p.1 p.2 0 u) ps us->QC σ ps=some cs->KC ok g σ w cs us (ps.map (·.1))
 | [],[],_,_,h=>by cases h;rfl
 | (id,ver) :: ps,u :: us,cs,h,hc=>by
  unfold QC at hc;split at hc
  ·rename_i hv;split at hc
   ·rename_i t x gs hx;split at hc
    ·rename_i l hl;cases hc;obtain ⟨b,f,hb,hp⟩:=h.1.2 hv;exact ⟨_,⟨id,b,f,gs,rfl,hp,hb,hx,rfl⟩,uO h.2 hl⟩
    simp_all
   simp_all
  simp_all
 | [],_ :: _,_,h,_=>h.elim
 | _ :: _,[],_,h,_=>h.elim
theorem P6 {ok ok':Nat->Nat->Prop} {w w':World}:∀ {t:Ty} {x:t.D} {cs:List Value},IP t=true->RepD ok w t x cs->RepD ok' w' t x cs
 | .int _,_,_,_,h=>h
 | .bool,_,_,_,h=>h
 | .str,_,_,_,h=>h
 | .sl _,_,_,hw,_=>by cases hw
 | .wrap a,_,_,hw,h=>P6 (t:=a) hw h
 | .pair a b,_,_,hw,h=>by
  unfold IP at hw;rw [Bool.and_eq_true] at hw;obtain ⟨c1,c2,rfl,h1,h2⟩:=h;exact ⟨c1,c2,rfl,P6 hw.1 h1,P6 hw.2 h2⟩
 | .arr m e,_,_,hw,h=>⟨h.1,h.2.1,λ i x hi=>P6 (t:=e) hw (h.2.2 i x hi)⟩
 | .lk _,_,_,_,h=>h
theorem jv {ok ok':Nat->Nat->Prop} {w w':World} {e:Ty} (he:IP e=true) {l:List e.D} {cur:Array Value} (h:K8 ok w e l cur):K8 ok' w' e l cur:=λ i x hi=>by
 obtain ⟨ys,h1,h2⟩:=h i x hi;exact ⟨ys,P6 he h1,h2⟩
theorem yV {ok ok':Nat->Nat->Prop} {ρ:Nat->Option (Nat×Nat)}:∀ {ds:List Con} {bs:List Nat} {j:Nat},(∀ d∈ds,XX d=true)->MP ok ρ w j ds bs->MP ok' ρ w j ds bs
 | [],[],_,_,_=>trivial
 | d :: ds,b :: bs,_,hw,⟨h,h3⟩=>by
  refine ⟨?_,yV (by simp_all) h3⟩;have hd:=hw d (AI ..);cases d with
  | var t x g=>obtain ⟨cs,T,h1,h2,h4⟩:=h;exact ⟨cs,T,h1,P6 hd h2,h4⟩
  | arr e l f=>obtain ⟨hf,cur,T,y,h1,hy,h2,h3,h4⟩:=h;exact ⟨hf,cur,T,y,h1,hy,h2,h3,jv hd h4⟩
  | val v=>exact h.elim
 | [],_ :: _,_,_,h=>h.elim
 | _ :: _,[],_,_,h=>h.elim
theorem yW {ok ok':Nat->Nat->Prop} {ρ ρ':Nat->Option (Nat×Nat)}:∀ {ds:List Dat} {vs:List Value} {j:Nat},(ds.all λ d=>IP d.t && d.g.isEmpty)=true->L7 ok ρ w j ds vs->L7 ok' ρ' w j ds vs
 | [],[],_,_,_=>trivial
 | d :: ds,v :: vs,j,hw,⟨⟨cs,h1,h2,h3⟩,h4⟩=>by
  rw [List.all_cons,Bool.and_eq_true,Bool.and_eq_true] at hw;obtain ⟨⟨fv,qJ⟩,hw3⟩:=hw;have hg:d.g=[]:=by simp_all
  rw [hg] at h4;refine ⟨⟨cs,P6 fv h1,h2,by rw [hg];trivial⟩,?_⟩;rw [hg];exact yW hw3 h4
 | [],_ :: _,_,_,h=>h.elim
 | _ :: _,[],_,_,h=>h.elim
theorem Yhg {ok ok':Nat->Nat->Prop} {av:AV} {EG:List Con} {bs:List Nat} {rws:List (Option (Nat×Nat))} {v:Value} (ha:XW av=true) (hi:∀ d∈EG,XX d=true) (h:O4 ok w w' av EG bs rws v):O4 ok' w w' av EG bs rws v:=by
 obtain ⟨ρ,h1,h2,h3,h4⟩:=h;refine ⟨ρ,h1,h2,yV hi h3,?_⟩;cases av with
 | dat t x g=>
  unfold XW at ha;rw [Bool.and_eq_true] at ha;have hg:g=[]:=by simp_all
  subst hg;obtain ⟨cs,k1,k2,_⟩:=h4;exact ⟨cs,P6 ha.1 k1,k2,trivial⟩
 | tup ds=>
  obtain ⟨vs,k1,k2⟩:=h4;exact ⟨vs,k1,yW ha k2⟩
 | _=>cases ha
theorem xd (Hv:Inv B ok0 w0 g σ1 a w) (hd:∀ d,o.dst=some d->d<a.tmps.size) {ids bs hs:List Nat} {rws:List (Option (Nat×Nat))} (IF:C9 (λ id b=>g.bx id=some (b,false)) ids bs) (Fg:Handed g w hs rws) (Iq:KY σ1 ids=true) {av:AV} {EG:List Con} (Mm:Oh σ1 ids EG) {v:Value} {next:Act->World->Prop}
  (hn:∀ g' a' w',Inv B ok0 w0 g' (imp o ids (EC hs σ1) av EG) a' w'->a'.tmps.size=a.tmps.size->next a' w') (hb:BelowX ⟨w.heap.size,bs,rws⟩ w w') (Tr:O4 (okG B ok0 g w) w w' av EG bs rws v):next (a.put o.dst v) w':=by
 obtain ⟨Iw,_⟩:=Wi Iq;obtain ⟨ρ,h1,h2,LK,Kl⟩:=Tr;unfold imp at hn;cases Hq:o.dst with
 | none=>
  rw [Hq] at hn;obtain ⟨g2,F4,_,_,_⟩:=Z9 Hv hb h1 h2 IF Iw Fg Mm.bare 0 0 (λ g' _ B3=>jR B3 EG bs _ LK);rw [Wt] at F4;exact hn g2 _ _ F4 (by rfl)
 | some d=>
  rw [Hq] at hn;unfold Yh at Kl;split at Kl
  ·rename_i t x gs;obtain ⟨cs,FL,hv,TR⟩:=Kl;simp [UM,SF,AF] at hn;have FW:=ZJ d 0 (Hc gs) (L8 EG) (EC hs σ1);rw [AF] at FW;rw [ZK d (EC hs σ1) EG (Hc gs) Ad,FW] at hn;obtain ⟨g2,F4,B3,GK,_⟩:=Z9 Hv hb h1 h2 IF Iw Fg (Mm.Ls d (EC hs σ1) (Hc gs)) d (Hc gs+L8 EG) (λ g' GK B3=>oR GK B3 EG bs (Hc gs) (Au _) LK);refine hn g2 _ _ (F4.put (dst:=some d) ⟨cs,FL.mono (by simp_all),hv,?_⟩ (by simp_all)) (OR _ _ _);rw [(ZL _ _ _).2.2];exact Wv GK gs 0 Ad TR
  ·rename_i ds;obtain ⟨vs,hv,Y6⟩:=Kl;simp [jP,SF,AF] at hn;have FW:=ZJ d 0 (KH ds) (L8 EG) (EC hs σ1);rw [AF] at FW;rw [ZK d (EC hs σ1) EG (KH ds) Ad,FW] at hn;obtain ⟨g2,F4,B3,GK,_⟩:=Z9 Hv hb h1 h2 IF Iw Fg (Mm.Ls d (EC hs σ1) (KH ds)) d (KH ds+L8 EG) (λ g' GK B3=>oR GK B3 EG bs (KH ds) (Au _) LK);refine hn g2 _ _ (F4.put (dst:=some d) ⟨vs,hv,?_⟩ (by simp_all)) (OR _ _ _);have key:∀ (σ1:St) (N:Nat) (hN:∀ k,k<N->g2.rw (CK d k) = ρ k) (σ2:St) (h2:σ2.r=(E1 d 0 N σ1).r) (ds:List Dat) (vs:List Value) (j:Nat),j+KH ds<=N->L7 (Df (okG B ok0 g w) w w' rws ρ) ρ w' j ds vs->
     C9 (λ (q:Dat) u=>Rx (okG B ok0 g2 w') g2 σ2 w' q.t q.x q.g u) (RI d σ1 j ds) vs:=by
    intro σ1 N hN σ2 h2 ds;induction ds with
    | nil=>intro vs j _ h;cases vs with
     | nil=>trivial
     | cons _ _=>exact h.elim
    | cons q ds ih=>
     intro vs j hj h;cases vs with
     | nil=>exact h.elim
     | cons v vs=>
      obtain ⟨⟨cs,h3,h4,h5⟩,h6⟩:=h;unfold KH at hj;exact ⟨⟨cs,h3.mono (by simp_all),h4,by rw [h2];exact Wv hN q.g j Ad h5⟩,(by grind)⟩
   exact key _ (KH ds+L8 EG) GK _ (ZL _ _ _).2.2 ds vs 0 Ad Y6
  ·rename_i e l;obtain ⟨rfl,rfl,Jg,b,cap,cur,T,q1,q2,q3,q4,q5,q6,rfl,q8⟩:=Kl;have JM:ids=[]:=by cases ids with
    | nil=>rfl
    | cons _ _=>exact IF.elim
   have hh0:hs=[]:=by cases hs with
    | nil=>rfl
    | cons _ _=>exact Fg.elim
   subst JM hh0;have D9:Below w.heap.size w w':=hb.below;have F4:=Hv.C3 (nb:=b) (id:=d) (c:= .arr e l false) (Nat.lt_of_lt_of_le (hd d Hq) Hv.tm) D9 q1 q2 λ ok g' σ' D2=>⟨rfl,cur,T,_,q3, .inl rfl,by rw [q4];exact AT _ q5,Ad,jv Jg q8⟩
   refine hn _ _ _ (F4.put (dst:=some d) ⟨?_,λ _=>⟨e,l,false,?_, .inr ⟨b,false,cap,cur,T,_,?_,q3,q4,q5,q6,rfl⟩⟩⟩ (by grind)) (OR _ _ _)
   ·simp [St.C3,B5,EC,Ic]
   ·simp [St.C3,B5]
   ·simp [G.D1,B5]
  ·obtain ⟨b,cap,e,l,f,A,q1,q2,q3,q4,q5,q8,q9,rfl⟩:=Kl;obtain ⟨id,q6,q7⟩:=IF.eD q1;obtain ⟨g2,F4,_,_,Er⟩:=Z9 Hv hb h1 h2 IF Iw Fg Mm.bare 0 0 (λ g' _ B3=>jR B3 EG bs _ LK);rw [Wt] at F4;simp [q6] at hn;refine hn g2 _ _ (F4.put (dst:=some d) ⟨Au _,λ _=>⟨e,l,f,A,cap,?_,Ad,q4,q5,(by simp_all),q9,rfl⟩⟩ (by simp_all)) (OR _ _ _);exact Z8 Iw q6 (by rw [List.getElem?_map,q2];rfl)
  simp_all
theorem xe (hI:Inv B ok0 w0 g σ a w) (hs:Still B ok0 g g' σ σ1 w):∀ {ids bs:List Nat},C9 (λ id b=>g'.bx id=some (b,false)) ids bs->(∀ id∈ids,(∃ t x gs,σ.c id=some (.var t x gs))\/∃ e l,σ.c id=some (.arr e l false))->
  C9 (λ id b=>g.bx id=some (b,false)) ids bs
 | [],[],_,_=>trivial
 | id :: ids,b :: bs,⟨h1,h2⟩,hv=>by
  refine ⟨?_,xe hI hs h2 (by simp_all)⟩;obtain ⟨_,k6,_,k8,_⟩:=(hs.ext.box id (σ.v id) (Au _)).2 (by rw [hs.v]);have hc:∃ c,σ.c id=some c/\∀ e l fz,c = .arr e l fz->fz=false:=by
   rcases hv id (AI ..) with ⟨t,x,gs,hc⟩ | ⟨e,l,hc⟩
   all_goals simp_all
  obtain ⟨c,hc,hz⟩:=hc;cases Er:g.bx id with
  | none=>simp_all
  | some q=>
   obtain ⟨b0,f0⟩:=q;obtain ⟨f',GF⟩:=k6 b0 f0 Er;rw [h1] at GF;cases GF;have hk:=hI.IE Er hc;cases c with
   | var t x gs=>rw [hk.1]
   | arr e l fz=>rw [hk.1,hz e l fz rfl]
   | val v=>rw [hk.1]
 | [],_ :: _,h,_=>h.elim
 | _ :: _,[],h,_=>h.elim
theorem Ypz {l:List AV} {r:CallRes} {y:r.α} (h:mA l r=some y):r.m=some y/\(Ld l=false\/Od l=true/\SZ l (r.io y)=true):=by
 unfold mA at h;cases ha:Ld l with
 | true=>
  rw [ha] at h;unfold mG at h;cases hf:Od l with
  | false=>simp_all
  | true=>
   rw [hf] at h;cases hm:r.m with
   | none=>simp_all
   | some z=>
    grind
 | false=>
  simp_all
theorem yX:∀ {l:List AV},Ld l=false->Od l=true
 | [],_=>rfl
 | a :: l,h=>by
  cases a with
  | ioa e x=>cases h
  | _=>exact yX (l:=l) h
theorem WN {ok:Nat->Nat->Prop}:∀ {l:List AV} {vs:List Value} {ids:List Nat},KC ok g σ w l vs ids->Ld l=false->∀ id∈ids,∃ t x gs,σ.c id=some (.var t x gs)
 | [],[],_,h,_,id,hm=>by cases h;grind
 | a :: l,v :: vs,ids,⟨r,h1,h2⟩,hn,id,hm=>by
  cases a with
  | ioa e x=>cases hn
  | iov t x h=>
   obtain ⟨i,b,f,gs,rfl,_,_,hc,_⟩:=h1;rcases List.mem_cons.1 hm with rfl | hm
   ·simp_all
   ·exact WN h2 hn id hm
  | _=>obtain ⟨_,rfl⟩:=h1;exact WN h2 hn id hm
 | [],_ :: _,_,h,_,_,_=>h.elim
 | _ :: _,[],_,h,_,_,_=>h.elim
theorem aY {ok:Nat->Nat->Prop}:∀ {l:List AV} {vs:List Value} {ids:List Nat} {cs:List Con},KC ok g σ w l vs ids->SZ l cs=true->Oh σ ids cs
 | [],[],_,_,h,_=>by cases h;intro k id e l fz h1;simp_all
 | a :: l,v :: vs,ids,cs,⟨r,h1,h2⟩,hk=>by
  cases a with
  | ioa e x=>
   obtain ⟨i,fz,rfl,hc,_⟩:=h1;cases cs with
   | nil=>cases hk
   | cons c cs=>
    cases c with
    | arr e' l' f'=>
     have De:(decide (e'=e) && (!f' && (decide (List.length (α:=e'.D) l'=List.length (α:=e.D) x) && SZ l cs)))=true:=hk;rw [Bool.and_eq_true,Bool.and_eq_true,Bool.and_eq_true] at De;obtain ⟨q1,q2,q3,q4⟩:=De;have q1:=Az q1;cases f' with
     | true=>grind
     | false=>
      intro k id e2 l2 IG g1 g2;cases k with
      | zero=>
       grind
      | succ k=>
       exact aY h2 q4 k id e2 l2 IG g1 g2
    | _=>cases hk
  | iov t x h=>
   obtain ⟨i,b,f,gs,rfl,_,_,hc,_⟩:=h1;cases cs with
   | nil=>cases hk
   | cons c cs=>
    intro k id e2 l2 IG g1 g2;cases k with
    | zero=>
     simp_all
    | succ k=>
     exact aY h2 hk k id e2 l2 IG g1 g2
  | _=>
   obtain ⟨_,rfl⟩:=h1;exact aY h2 hk
 | [],_ :: _,_,_,h,_=>h.elim
 | _ :: _,[],_,_,h,_=>h.elim
theorem uP (hC:Ib P E) (hI:Inv B ok0 w0 g σ a w) (Hv:Inv B ok0 w0 g' σ1 a w) (Fy:Still B ok0 g g' σ σ1 w) (hd:∀ d,o.dst=some d->d<a.tmps.size) {f:Nat} {s:Spec} (hs:E.call f=some s) {l:List AV} {vs:List Value} {ids:List Nat}
  (C7:KC (okG B ok0 g' w) g' σ1 w l vs ids) (Iq:(KY (KF (E.lend f) σ σ1) ids && (Kh (Gq l) && (!E.lend f || ((Gq l).isEmpty && !Ld l))))=true) {r:CallRes} (hr:s l=some r) (B8:(execOp a.eval o).run P w = .ok (.enter f vs.toArray) w):
  DZ P B ok0 w0 (.call r.α (mA l r) λ x=>imp o ids (EC (Gq l) (KF (E.lend f) σ σ1)) (r.enc x) (r.io x)) o a w:=by
 rw [Bool.and_eq_true,Bool.and_eq_true] at Iq;obtain ⟨Iq,VD,Ztq⟩:=Iq;intro next Q y hy hn
 obtain ⟨hy,On⟩:=Ypz hy;have Vj:Od l=true:=by
  rcases On with h | h
  ·exact yX h
  simp_all
 have Zeo:E.lend f=true->Ld l=false:=λ hle=>by
  simp_all
 have Xee:∀ id∈ids,(∃ t x gs,σ1.c id=some (.var t x gs))\/∃ e l,σ1.c id=some (.arr e l false):=λ id hm=>by
  cases hle:E.lend f with
  | true=>exact .inl (WN C7 (Zeo hle) id hm)
  | false=>rw [hle] at Iq;exact (Wi Iq).2 id hm
 have Mm:Oh σ1 ids (r.io y):=by
  rcases On with h | h
  ·intro k id e l fz h1 h2;obtain ⟨t,x,gs,h3⟩:=WN C7 h id (by grind);simp_all
  ·exact aY C7 h.2
 obtain ⟨Ny,_,Xfe⟩:=hC f s hs;obtain ⟨bs,rws,Ey,IF,Vm⟩:=dC Hv C7 Vj Xee;have Iw:=(Wi Iq).1;obtain ⟨z,z1,z2,z3⟩:=Hv.Xge
 have Ym6:=Ny l r y hr hy (okG B ok0 g' w) w vs bs rws ⟨z,z1,λ b hm=>by
   obtain ⟨id,_,he⟩:=IF.right hm;exact z2 b (by rcases (Hv.bb id b false he).1 with h | h;all_goals simp_all),λ b u hm=>by
   obtain ⟨id,_,he⟩:=Vm.right hm
   exact z3 b (by rcases (Hv.rb id b u (he b u rfl).2.1).1 with h | ⟨u0,h,_⟩;exact .inl h;exact .inr ⟨u0,h⟩)⟩ (λ b o hk=>⟨Hv.okB hk,λ hm=>by
   obtain ⟨id,_,he⟩:=IF.right hm;exact Hv.Zco hk he,λ u hm=>by
   obtain ⟨id,_,he⟩:=Vm.right hm
   exact Hv.Zdo hk (he b u rfl).2.1⟩) (xc Hv IF Iw) (λ b hm=>by
  obtain ⟨id,_,he⟩:=IF.right hm
  exact (Hv.bb id b false he).2) (Yoz Hv IF Vm VD) Ey
 unfold Oper.wp;rw [B8];refine Ym6.mono λ e w' h=>?_
 obtain ⟨v,rfl,hb,Tr⟩:=h;revert Iq hn Ztq;cases hle:E.lend f with
 | false=>
  intro Iq _ hn;exact xd Hv hd IF Vm Iq Mm hn hb Tr
 | true=>
  intro Iq Ztq hn;obtain ⟨fv,qJ⟩:=Xfe hle l r y hr;have h0:Gq l=[]:=by
   simp_all
  have Xph:Oh σ ids (r.io y):=λ k id e l' fz h1 h2=>by
   obtain ⟨t,x,gs,h3⟩:=WN C7 (Zeo hle) id (by grind);obtain ⟨f',h4⟩:=Fy.arr _ _ _ _ h2;simp_all
  rw [h0] at Vm hn;have Hb:rws=[]:=by cases rws with
   | nil=>rfl
   | cons _ _=>exact Vm.elim
  subst Hb;exact xd (hs:=[]) (rws:=[]) hI hd (xe hI Fy IF (Wi Iq).2) (show Handed g w [] [] from trivial) Iq Xph hn hb (Yhg fv qJ Tr)
theorem uQ {c:Call} (hlen:c.args.toList.length=c.argTypes.toList.length):(c.args.toList.zip c.argTypes.toList).map (λ p=>a.eval p.1)=(c.args.map a.eval).toList:=by
 rw [Array.toList_map,<- List.map_fst_zip (l₁:=c.args.toList) (l₂:=c.argTypes.toList) Ad,List.map_map,List.map_fst_zip Ad];rfl
theorem Ykz (hC:Ib P E) (hI:Inv B ok0 w0 g σ a w) (hd:∀ d,o.dst=some d->d<a.tmps.size) {c:Call} (ho:o.op = .call c) {x:Operand} (hc:c.callee = .value x) {f:Nat} {TZ:List Dat} (hf:Bm σ x = .fn f TZ) {s:Spec} (hs:E.call f=some s)
  {l:List AV} (hl:KA E (E.inpl f) (c.args.toList.zip c.argTypes.toList) σ = some (l,σ1)) (hlen:c.args.toList.length=c.argTypes.toList.length) {r:CallRes} (hr:s (EF l (Jb TZ))=some r) (Iq:(KY (KF (E.lend f) σ σ1) (Gw σ (E.inpl f) c.args.toList) && (Kh (Gq (EF l (Jb TZ))) && (!E.lend f || ((Gq (EF l (Jb TZ))).isEmpty && !Ld (EF l (Jb TZ))))))=true):
  DZ P B ok0 w0 (.call r.α (mA (EF l (Jb TZ)) r) λ x=>imp o (Gw σ (E.inpl f) c.args.toList) (EC (Gq (EF l (Jb TZ))) (KF (E.lend f) σ σ1)) (r.enc x) (r.io x)) o a w:=by
 rw [ju] at hr Iq ⊢;obtain ⟨g1,Hv,NK,C7⟩:=jQ hI hl;have Za:=EM hI x;rw [hf] at Za;obtain ⟨vs,hv,h2⟩:=Za;rw [uQ hlen,List.map_fst_zip Ad] at C7;have:=C7.append (tI (g:=g1) (σ:=σ1) (w:=w) (h2.imp λ d u h=>h.mono λ b o hk=>(NK.ext.cell b o hk).1));rw [AE] at this;refine uP hC hI Hv NK hd hs this Iq hr ?_;unfold execOp;rw [ho];simp [resolve,hc,hv,Deferred.ofValue,invoke];rw [show c.args.map a.eval++vs.toArray=((c.args.map a.eval).toList++vs).toArray by simp];simpa using (hC f s hs).2.1 ((c.args.map a.eval).toList++vs).toArray w
theorem Yj6 (hC:Ib P E) (hI:Inv B ok0 w0 g σ a w) (hd:∀ d,o.dst=some d->d<a.tmps.size) {c:Call} (ho:o.op = .call c) {x:Operand} (hc:c.callee = .value x) {f:Nat} {ps:List (Nat×Nat)} (hf:Bm σ x = .clo f ps) {s:Spec} (hs:E.call f=some s)
  {l cs:List AV} (hl:KA E (E.inpl f) (c.args.toList.zip c.argTypes.toList) σ = some (l,σ1)) (CM:QC σ ps=some cs) (hlen:c.args.toList.length=c.argTypes.toList.length) {r:CallRes} (hr:s (EF l cs)=some r)
  (Iq:(KY (KF (E.lend f) σ σ1) (Gw σ (E.inpl f) c.args.toList++ps.map (·.1)) && (Kh (Gq (EF l cs)) && (!E.lend f || ((Gq (EF l cs)).isEmpty && !Ld (EF l cs)))))=true):
  DZ P B ok0 w0 (.call r.α (mA (EF l cs) r) λ x=>imp o (Gw σ (E.inpl f) c.args.toList++ps.map (·.1)) (EC (Gq (EF l cs)) (KF (E.lend f) σ σ1)) (r.enc x) (r.io x)) o a w:=by
 rw [ju] at hr Iq ⊢;obtain ⟨g1,Hv,NK,C7⟩:=jQ hI hl;have Za:=EM hI x;rw [hf] at Za;obtain ⟨vs,hv,h2⟩:=Za;rw [uQ hlen,List.map_fst_zip Ad] at C7;have:=C7.append ((uO (ok:=okG B ok0 g w) (w:=w) h2 CM).still NK);refine uP hC hI Hv NK hd hs this Iq hr ?_;unfold execOp;rw [ho];simp [resolve,hc,hv,Deferred.ofValue,invoke];rw [show c.args.map a.eval++vs.toArray=((c.args.map a.eval).toList++vs).toArray by simp];simpa using (hC f s hs).2.1 ((c.args.map a.eval).toList++vs).toArray w
end
end Go.AM
end

section
/- Every operation, put together; guards, regions in the text's order. -/
namespace Go.AM
open Go.RowKit (Below)
set_option linter.unusedSectionVars false
variable [Lay]
section
variable {P : Program} {B : Bd} {ok0 : Nat -> Nat -> Prop} {w0 w w' : World} {g g' : G} {σ σ1 : St} {a : Act} {o : Oper} {E : Env}
theorem Yuf (hE:EnvOk P E) (hC:Ib P E) (hI:Inv B ok0 w0 g σ a w) (hd:∀ d,o.dst=some d->d<a.tmps.size) {c:Call} (ho:o.op = .call c):
  DZ P B ok0 w0 (Nq E c o σ) o a w:=by
 unfold Nq;split
 ·rename_i b hb;split
  ·rename_i x T ha Il;exact Yi6 hE hI hd ho hb ha Il
  ·rename_i s x T U ha Il;split
   ·rename_i id ver hs;exact Zd0 hE hI hd ho hb ha Il hs
   ·exact Zo4 hE hI hd ho hb ha Il
  ·rename_i x T ha Il;exact Yvf hE hI hd ho hb ha Il
  ·rename_i s x T U ha Il;exact Yjz hE hI hd ho hb ha Il
  ·rename_i ha;refine uN (F:=Builtin.min2) hI hd (λ k j x y=>rfl) λ v r hv u hu=>?_
   unfold execOp;rw [ho];simp [resolve,hb,invoke,builtin,Builtin.min_,hv,hu]
  ·rename_i ha;refine uN (F:=Builtin.max2) hI hd (λ k j x y=>rfl) λ v r hv u hu=>?_
   unfold execOp;rw [ho];simp [resolve,hb,invoke,builtin,Builtin.max_,hv,hu]
  ·exact BF
 ·rename_i x hx;split
  ·rename_i f ds hf;split
   ·rename_i s hs;split
    ·rename_i hlen;split
     ·rename_i l σ' hl;split
      ·rename_i r hr;cases Iq:(KY (KF (E.lend f) σ σ') (Gw σ (E.inpl f) c.args.toList) && (Kh (Gq (EF l (Jb ds))) && (!E.lend f || ((Gq (EF l (Jb ds))).isEmpty && !Ld (EF l (Jb ds)))))) with
       | true=>exact Ykz hC hI hd ho hx hf hs hl hlen hr Iq
       | false=>exact BF
      ·exact BF
     ·exact BF
    ·exact BF
   ·exact BF
  ·rename_i f ps hf;split
   ·rename_i s hs;split
    ·rename_i hlen;split
     ·rename_i l σ' cs hl CM;split
      ·rename_i r hr;cases Iq:(KY (KF (E.lend f) σ σ') (Gw σ (E.inpl f) c.args.toList++ps.map (·.1)) && (Kh (Gq (EF l cs)) && (!E.lend f || ((Gq (EF l cs)).isEmpty && !Ld (EF l cs))))) with
       | true=>exact Yj6 hC hI hd ho hx hf hs hl CM hlen hr Iq
       | false=>exact BF
      ·exact BF
     ·exact BF
    ·exact BF
   ·exact BF
  ·exact BF
 ·exact BF
theorem Ylz (hE:EnvOk P E) (hC:Ib P E) (hI:Inv B ok0 w0 g σ a w) (hd:∀ d,o.dst=some d->d<a.tmps.size):DZ P B ok0 w0 (EP E σ o) o a w:=by
 cases ho:o.op with
 | nilCheck x=>exact Zax hI hd ho
 | move x=>unfold EP;rw [ho];exact wZ hI hd (.inl ho)
 | assign x=>unfold EP;rw [ho];exact wZ hI hd (.inr ho)
 | alloc T=>unfold EP;rw [ho];exact Ywf hE hI hd ho
 | box T x=>unfold EP;rw [ho];exact Yk6 hE hI hd ho
 | build T ps=>
  unfold EP;rw [ho];dsimp only;split
  ·rename_i t hT;split
   ·rename_i Pn;split
    ·rename_i z gs h;exact Yxf hE hI hd ho hT Pn h
    ·exact BF
   ·exact BF
  ·exact BF
 | buildSlice T n ps=>unfold EP;rw [ho];exact Zxt hE hI hd ho
 | load T x=>unfold EP;rw [ho];exact Ymz hE hI hd ho
 | store T x y=>unfold EP;rw [ho];exact Yyf hE hI hd ho
 | binOp op T x y U=>
  unfold EP;rw [ho];dsimp only;cases hn:UU y with
  | true=>exact Yzf hE hI hd ho hn
  | false=>exact Yag hE hI hd ho
 | unOp op T x=>unfold EP;rw [ho];exact Ynz hI hd ho
 | convert src dst x=>
  unfold EP;rw [ho];by_cases h:E.ty src=some .str/\E.ty dst=some (.sl (.int .u8))
  ·exact Ybg hE hI hd ho h.1 h.2
  ·exact Ze0 hE hI hd ho h
 | makeFunc fn p q=>
  unfold EP;rw [ho];cases fn with
  | func f=>
   dsimp only;split
   ·rename_i h;cases Er:IC E o.dst with
    | true=>
     dsimp only [cond];split
     ·rename_i ps hq;exact Zf0 hI hd ho h hq
     ·exact BF
    | false=>
     dsimp only [cond];split
     ·rename_i ds σ' hq;exact Zbx hI hd ho h hq
     ·exact BF
   ·exact BF
  | _=>exact BF
 | makeSlice T x y=>unfold EP;rw [ho];exact Zbv hE hI hd ho
 | slice T x lo hi mx=>
  unfold EP;rw [ho];cases mx with
  | none=>exact Ycg hE hI hd ho
  | some m=>exact BF
 | fieldAddr S x f=>unfold EP;rw [ho];exact Zcv hE hI hd ho
 | field S x f=>unfold EP;rw [ho];exact Ydg hE hI hd ho
 | indexAddr T x i=>unfold EP;rw [ho];exact Zdv hE hI hd ho
 | index T x i=>unfold EP;rw [ho];exact Yeg hE hI hd ho
 | extract x i=>unfold EP;rw [ho];exact Zg0 hI hd ho
 | call c=>unfold EP;rw [ho];exact Yuf hE hC hI hd ho
 | _=>unfold EP;rw [ho];exact BF
def Step.to (s:Step) (σ':St):Prop:=
 match s with
 | .no=>False
 | .go c σ1=>c=true/\σ' = σ1
 | .call _ m f=>∃ x,m=some x/\σ'=f x
theorem Step.Yfg {R:Type} {s:Step} {k:St->Option R} {r:R} (h:s.run k=some r):∃ σ',s.to σ'/\k σ'=some r:=by
 cases s with
 | no=>cases h
 | go c σ1=>
  cases c with
  | true=>exact ⟨σ1,⟨rfl,rfl⟩,h⟩
  | false=>cases h
 | call α m f=>
  obtain ⟨x,hx,hk⟩:=Option.bind_eq_some_iff.1 h;exact ⟨f x,⟨x,hx,rfl⟩,hk⟩
def Jy (E:Env) (σ:St) (o:Oper) (σ':St):Prop:=
 match o.op with
 | .pick c x y=>∃ t gs,Bm σ c = .dat .bool t gs/\σ' = σ.Ce o.dst (if t=true then Bm σ x else Bm σ y)
 | _=>(EP E σ o).to σ'
theorem gV {R:Type} {k:St->Option R} {r:R} (h:XY E σ o k=some r):∃ σ',Jy E σ o σ'/\k σ'=some r:=by
 unfold XY at h;unfold Jy;split at h
 ·rename_i c x y ho;rw [ho];dsimp only;split at h
  ·rename_i t gs hc;cases t with
   | true=>exact ⟨_,⟨true,gs,hc,rfl⟩,h⟩
   | false=>exact ⟨_,⟨false,gs,hc,rfl⟩,h⟩
  ·cases h
 ·rename_i Kj;obtain ⟨σ',h1,h2⟩:=Step.Yfg h;refine ⟨σ',?_,h2⟩;split
  ·rename_i c x y ho;exact absurd ho (Kj c x y)
  ·exact h1
theorem Yh6 (hE:EnvOk P E) (hC:Ib P E) (hI:Inv B ok0 w0 g σ a w) (hd:∀ d,o.dst=some d->d<a.tmps.size) {σ':St} (h:Jy E σ o σ') {next:Act->World->Prop} {Q:Exit->Act->World->Prop}
  (hn:∀ g' a' w',Inv B ok0 w0 g' σ' a' w'->a'.tmps.size=a.tmps.size->next a' w'):o.wp P a w next Q:=by
 unfold Jy at h;split at h
 ·rename_i c x y ho;obtain ⟨t,gs,hc,rfl⟩:=h;have hcb:=iM hI hc;have B8:(execOp a.eval o).run P w = .ok (.value (if t=true then a.eval x else a.eval y)) w:=by
   unfold execOp;rw [ho];simp [hcb,asBool]
  unfold Oper.wp;rw [B8];refine hn g _ _ (hI.put ?_ hd) (OR _ _ _);cases t with
  | true=>exact EM hI x
  | false=>exact EM hI y
 ·have hs:=Ylz hE hC hI hd next Q
  revert h hs;cases EP E σ o with
  | no=>intro h _;exact h.elim
  | go c σ1=>intro h hs;obtain ⟨rfl,rfl⟩:=h;exact hs rfl hn
  | call α m f=>intro h hs;obtain ⟨x,hx,rfl⟩:=h;exact hs x hx hn
end
end Go.AM
end

section
/- Where ways meet: a state cut down to what is kept, under new names. -/
namespace Go.AM
open Go.RowKit (Below)
set_option linter.unusedSectionVars false
variable [Lay]
section
variable {P : Program} {B : Bd} {ok0 : Nat -> Nat -> Prop} {w0 w w' : World} {g g' : G} {σ σ1 : St} {a : Act} {o : Oper} {E : Env}
def Names:List (Nat×Nat)->Prop
 | []=>True
 | p :: s=>(∀ q∈s,q.1≠p.1)/\(p.2≠0->∀ q∈s,q.2≠p.2)/\Names s
theorem Names.inj:∀ {s:List (Nat×Nat)},Names s->∀ {n m x:Nat},(n,x)∈s->(m,x)∈s->x≠0->n=m
 | [],_,_,_,_,h,_,_=>by cases h
 | p :: s,hn,n,m,x,h1,h2,hx=>by
  rcases List.mem_cons.1 h1 with k1 | k1 <;> rcases List.mem_cons.1 h2 with k2 | k2
  ·rw [<- k1] at k2;cases k2;rfl
  ·rw [<- k1] at hn;exact absurd rfl (hn.2.1 hx (m,x) k2)
  ·rw [<- k2] at hn;exact absurd rfl (hn.2.1 hx (n,x) k1)
  ·exact Names.inj hn.2.2 k1 k2 hx
theorem Names.fn:∀ {s:List (Nat×Nat)},Names s->∀ {n x y:Nat},(n,x)∈s->(n,y)∈s->x=y
 | [],_,_,_,_,h,_=>by cases h
 | p :: s,hn,n,x,y,h1,h2=>by
  rcases List.mem_cons.1 h1 with k1 | k1 <;> rcases List.mem_cons.1 h2 with k2 | k2
  ·rw [<- k1] at k2;cases k2;rfl
  ·rw [<- k1] at hn;exact absurd rfl (hn.1 (n,y) k2)
  ·rw [<- k2] at hn;exact absurd rfl (hn.1 (n,x) k1)
  ·exact Names.fn hn.2.2 k1 k2
def Tf (σ:St) (s:List (Nat×Nat)) (gs IH:List Tag):Prop:=
 ∀ t'∈IH,∃ t∈gs,t'.off=t.off/\t'.sz=t.sz/\t'.ver=0/\t'.id≠0/\(t'.id,t.id)∈s/\(t.id=0\/σ.r t.id=t.ver)
theorem Tf.mono {s s':List (Nat×Nat)} {gs IH:List Tag} (h:Tf σ s gs IH) (hs:∀ p∈s,p∈s'):Tf σ s' gs IH:=by
 intro t' LM;obtain ⟨t,h1,h2,h3,h4,h5,h6,h7⟩:=h t' LM;exact ⟨t,h1,h2,h3,h4,h5,hs _ h6,h7⟩
theorem Zj0 {s:List (Nat×Nat)} {n:Nat} (h:(s.all λ z=>!Nat.beq z.1 n)=true):∀ q∈s,q.1≠n:=by
 intro q hq e;have:=List.all_eq_true.1 h q hq;subst e;simp at this
theorem Zk0 {s:List (Nat×Nat)} {n:Nat} (h:(s.all λ z=>!Nat.beq z.2 n)=true):∀ q∈s,q.2≠n:=by
 intro q hq e;have:=List.all_eq_true.1 h q hq;subst e;simp at this
theorem aH (p:Nat):∀ (gs:List Tag) (s:List (Nat×Nat)),Names s->Names (Qp σ p gs s).2/\(∀ q∈s,q∈(Qp σ p gs s).2)/\Tf σ (Qp σ p gs s).2 gs (Qp σ p gs s).1
 | [],s,h=>⟨h,λ q hq=>hq,λ t ht=>by cases ht⟩
 | t :: r,s,h=>by
  unfold Qp;split
  ·rename_i hc;rw [Bool.and_eq_true] at hc;have hn:Names ((CK p t.off,t.id) :: s):=by
    refine ⟨Zj0 hc.1,λ h0=>?_,h⟩;rcases Bool.or_eq_true _ _ ▸ hc.2 with h1 | h1
    ·exact absurd (Nat.eq_of_beq_eq_true h1) h0
    ·exact Zk0 (Bool.and_eq_true _ _ ▸ h1).2
   obtain ⟨h1,h2,h3⟩:=aH p r _ hn;refine ⟨h1,λ q hq=>h2 q (AP _ hq),λ t' LM=>?_⟩;rcases List.mem_cons.1 LM with rfl | LM
   ·refine ⟨t,Ah,rfl,rfl,rfl,UY _ _,h2 _ Ah,?_⟩;rcases Bool.or_eq_true _ _ ▸ hc.2 with h4 | h4
    ·exact .inl (Nat.eq_of_beq_eq_true h4)
    ·exact .inr (Nat.eq_of_beq_eq_true (Bool.and_eq_true _ _ ▸ h4).1)
   ·obtain ⟨u,hu,rest⟩:=h3 t' LM;exact ⟨u,AP _ hu,rest⟩
  ·obtain ⟨h1,h2,h3⟩:=aH p r s h;refine ⟨h1,h2,λ t' LM=>?_⟩;obtain ⟨u,hu,rest⟩:=h3 t' LM;exact ⟨u,AP _ hu,rest⟩
def Qi (cs:List (Nat×Bool)) (σ:St) (s:List (Nat×Nat)) (a a':AV):Prop:=
 match a' with
 | .undef=>True
 | .none=>a = .none
 | .nils=>a = .nils
 | .dat t x IH=>∃ gs,a = .dat t x gs/\Tf σ s gs IH
 | .ptr id ver off=>ver=0/\∃ v,a = .ptr id v off/\J0 cs σ id v=true
 | .slw id ver=>ver=0/\∃ v,a = .slw id v/\J0 cs σ id v=true
 | .slm id ver lo n=>ver=0/\∃ v,a = .slm id v lo n/\J0 cs σ id v=true
 | .fn f caps=>a = .fn f caps
 | .clo f qs=>∃ ps,a = .clo f ps/\qs=ps.map (λ p=>(p.1,0))/\ps.all (λ p=>J0 cs σ p.1 p.2)=true
 | .ept t x off=>a = .ept t x off
 | _=>False
theorem Qi.mono {cs:List (Nat×Bool)} {s s':List (Nat×Nat)} {a a':AV} (h:Qi cs σ s a a') (hs:∀ p∈s,p∈s'):Qi cs σ s' a a':=by
 cases a' with
 | dat t x IH=>obtain ⟨gs,h1,h2⟩:=h;exact ⟨gs,h1,h2.mono hs⟩
 | _=>exact h
theorem Ykg (cs:List (Nat×Bool)) (p:Nat) (b:Bool) (s:List (Nat×Nat)) (a:AV) (h:Names s):Names (X0 cs σ p b s a).2/\(∀ q∈s,q∈(X0 cs σ p b s a).2)/\Qi cs σ (X0 cs σ p b s a).2 a (X0 cs σ p b s a).1:=by
 cases a with
 | dat t x gs=>
  cases b with
  | true=>
   obtain ⟨h1,h2,h3⟩:=aH (σ:=σ) p gs s h;exact ⟨h1,h2,gs,rfl,h3⟩
  | false=>exact ⟨h,λ q hq=>hq,gs,rfl,λ t ht=>by cases ht⟩
 | ptr id ver off=>
  refine ⟨h,λ q hq=>hq,?_⟩;show Qi cs σ s _ (if J0 cs σ id ver=true then AV.ptr id 0 off else .undef);cases hk:J0 cs σ id ver with
  | true=>exact ⟨rfl,ver,rfl,hk⟩
  | false=>trivial
 | slw id ver=>
  refine ⟨h,λ q hq=>hq,?_⟩;show Qi cs σ s _ (if J0 cs σ id ver=true then AV.slw id 0 else .undef);cases hk:J0 cs σ id ver with
  | true=>exact ⟨rfl,ver,rfl,hk⟩
  | false=>trivial
 | slm id ver lo n=>
  refine ⟨h,λ q hq=>hq,?_⟩;show Qi cs σ s _ (if J0 cs σ id ver=true then AV.slm id 0 lo n else .undef);cases hk:J0 cs σ id ver with
  | true=>exact ⟨rfl,ver,rfl,hk⟩
  | false=>trivial
 | fn f caps=>exact ⟨h,λ q hq=>hq,rfl⟩
 | clo f ps=>
  refine ⟨h,λ q hq=>hq,?_⟩;show Qi cs σ s _ (if ps.all (λ p=>J0 cs σ p.1 p.2)=true then AV.clo f (ps.map λ p=>(p.1,0)) else .undef);cases hk:ps.all (λ p=>J0 cs σ p.1 p.2) with
  | true=>exact ⟨ps,rfl,rfl,hk⟩
  | false=>trivial
 | iov t x=>exact ⟨h,λ q hq=>hq,trivial⟩
 | ioa e l=>exact ⟨h,λ q hq=>hq,trivial⟩
 | bxv e l=>exact ⟨h,λ q hq=>hq,trivial⟩
 | slp k n=>exact ⟨h,λ q hq=>hq,trivial⟩
 | nils=>exact ⟨h,λ q hq=>hq,rfl⟩
 | none=>exact ⟨h,λ q hq=>hq,rfl⟩
 | undef=>exact ⟨h,λ q hq=>hq,trivial⟩
 | aptr id ver i off=>exact ⟨h,λ q hq=>hq,trivial⟩
 | ept t x off=>exact ⟨h,λ q hq=>hq,rfl⟩
 | tup ds=>exact ⟨h,λ q hq=>hq,trivial⟩
def U0 (σ:St) (s:List (Nat×Nat)) (c c':Option Con):Prop:=
 match c' with
 | Option.none=>True
 | some (.var t x IH)=>∃ gs,c=some (.var t x gs)/\Tf σ s gs IH
 | some (.arr e l f)=>c=some (.arr e l f)
 | some (.val v)=>c=some (.val v)/\∃ f,v = .fn f []
theorem U0.mono {s s':List (Nat×Nat)} {c c':Option Con} (h:U0 σ s c c') (hs:∀ p∈s,p∈s'):U0 σ s' c c':=by
 unfold U0 at *;split at h
 ·trivial
 ·obtain ⟨gs,h1,h2⟩:=h;exact ⟨gs,h1,h2.mono hs⟩
 ·exact h
 ·exact h
theorem Ylg (p:Nat) (b:Bool) (s:List (Nat×Nat)) (c:Option Con) (h:Names s):Names (Vc σ p b s c).2/\(∀ q∈s,q∈(Vc σ p b s c).2)/\U0 σ (Vc σ p b s c).2 c (Vc σ p b s c).1/\
  (∀ e l f,c=some (.arr e l f)->(Vc σ p b s c).1=some (.arr e l f)):=by
 cases c with
 | none=>exact ⟨h,λ q hq=>hq,trivial,λ e l f he=>by cases he⟩
 | some c=>
  cases c with
  | var t x gs=>
   cases b with
   | true=>
    obtain ⟨h1,h2,h3⟩:=aH (σ:=σ) (1000+p) gs s h;exact ⟨h1,h2,⟨gs,rfl,h3⟩,λ e l f he=>by cases he⟩
   | false=>exact ⟨h,λ q hq=>hq,⟨gs,rfl,λ t ht=>by cases ht⟩,λ e l f he=>by cases he⟩
  | arr e l f=>exact ⟨h,λ q hq=>hq,rfl,λ e l f he=>he⟩
  | val v=>
   cases v with
   | fn f caps=>
    cases caps with
    | nil=>exact ⟨h,λ q hq=>hq,⟨rfl,f,rfl⟩,λ e l f he=>by cases he⟩
    | cons _ _=>exact ⟨h,λ q hq=>hq,trivial,λ e l f he=>by cases he⟩
   | _=>exact ⟨h,λ q hq=>hq,trivial,λ e l f he=>by cases he⟩
theorem uV (cs:List (Nat×Bool)):∀ (ks:List (Nat×Bool)) (s:List (Nat×Nat)),Names s->Names (Ng cs σ ks s).2/\(∀ q∈s,q∈(Ng cs σ ks s).2)/\
  ∀ i,Qi cs σ (Ng cs σ ks s).2 (σ.t i) (Pr (Ng cs σ ks s).1 i)
 | [],s,h=>⟨h,λ q hq=>hq,λ i=>trivial⟩
 | (k,b) :: r,s,h=>by
  unfold Ng;obtain ⟨h1,h2,h3⟩:=Ykg (σ:=σ) cs k b s (σ.t k) h;obtain ⟨h4,h5,h6⟩:=uV cs r _ h1;refine ⟨h4,λ q hq=>h5 q (h2 q hq),λ i=>?_⟩;simp only [Pr];cases hb:Nat.beq i k with
  | true=>
   have:=Nat.eq_of_beq_eq_true hb;subst this;exact h3.mono h5
  | false=>exact h6 i
theorem uW:∀ (ks:List (Nat×Bool)) (s:List (Nat×Nat)),Names s->Names (Nh σ ks s).2/\(∀ q∈s,q∈(Nh σ ks s).2)/\
  (∀ i,U0 σ (Nh σ ks s).2 (σ.c i) (JK (Nh σ ks s).1 i))/\(∀ i,(ks.any λ z=>Nat.beq z.1 i)=true->∀ e l f,σ.c i=some (.arr e l f)->JK (Nh σ ks s).1 i=some (.arr e l f))/\
  (∀ i c,JK (Nh σ ks s).1 i=some c->(ks.any λ z=>Nat.beq z.1 i)=true)
 | [],s,h=>⟨h,λ q hq=>hq,λ i=>trivial,λ i hi=>by simp at hi,λ i c hc=>by simp [Nh,JK] at hc⟩
 | (k,b) :: r,s,h=>by
  unfold Nh;obtain ⟨h1,h2,h3,Ot⟩:=Ylg (σ:=σ) k b s (σ.c k) h;obtain ⟨h4,h5,h6,h7,h8⟩:=uW r _ h1;refine ⟨h4,λ q hq=>h5 q (h2 q hq),λ i=>?_,λ i hi e l f hc=>?_,λ i c hc=>?_⟩
  ·simp only [JK];cases hb:Nat.beq i k with
   | true=>
    have:=Nat.eq_of_beq_eq_true hb;subst this;exact h3.mono h5
   | false=>exact h6 i
  ·simp only [JK];cases hb:Nat.beq i k with
   | true=>
    have:=Nat.eq_of_beq_eq_true hb;subst this;exact Ot e l f hc
   | false=>
    refine h7 i ?_ e l f hc;simp only [List.any_cons] at hi;rcases Bool.or_eq_true _ _ ▸ hi with hk | hk
    ·have:=Nat.eq_of_beq_eq_true hk;subst this;simp at hb
    ·exact hk
  ·simp only [JK] at hc;simp only [List.any_cons];cases hb:Nat.beq i k with
   | true=>have:=Nat.eq_of_beq_eq_true hb;subst this;simp
   | false=>rw [hb] at hc;rw [h8 i c hc];simp
theorem Inv.norm (h:Inv B ok0 w0 g σ a w) (kp:Keep):∃ g',Inv B ok0 w0 g' (AM.norm kp σ) a w:=by
  obtain ⟨h1,h2,h3⟩:=uV (σ:=σ) kp.c kp.t [] trivial;obtain ⟨h4,h5,h6,h7,h8⟩:=uW (σ:=σ) kp.c (Ng kp.c σ kp.t []).2 h1;have Ot:=λ i=>(h3 i).mono h5
  generalize hs:(Nh σ kp.c (Ng kp.c σ kp.t []).2).2=s at *
  let kept:Nat->Bool:=λ i=>kp.c.any λ z=>Nat.beq z.1 i
  let Sd:Nat->Option (Nat×Nat):=λ n=>match s.find? (λ p=>Nat.beq p.1 n) with
    | some p=>if p.2=0 then none else g.rw p.2
    | none=>none
  have GK:∀ n x,(n,x)∈s->x≠0->Sd n=g.rw x:=by
    intro n x hm hx;simp only [Sd];cases hf:s.find? (λ p=>Nat.beq p.1 n) with
    | none=>have:=List.find?_eq_none.1 hf _ hm;simp at this
    | some p=>
      have hp:=List.mem_of_find?_eq_some hf;have qT:p.1=n:=by
        have h9:(λ q:Nat×Nat=>Nat.beq q.1 n) p=true:=List.find?_some (p:=λ q:Nat×Nat=>Nat.beq q.1 n) hf;exact Nat.eq_of_beq_eq_true h9
      have:(n,p.2)∈s:=by rw [<- qT];exact hp
      have:=h4.fn hm this;simp only;rw [<- this,if_neg hx]
  have eE:∀ n r,Sd n=some r->∃ x,x≠0/\(n,x)∈s/\g.rw x=some r:=by
    intro n r hr;simp only [Sd] at hr;split at hr
    · rename_i p hf;have hp:=List.mem_of_find?_eq_some hf;have qT:p.1=n:=by
        have h9:(λ q:Nat×Nat=>Nat.beq q.1 n) p=true:=List.find?_some (p:=λ q:Nat×Nat=>Nat.beq q.1 n) hf;exact Nat.eq_of_beq_eq_true h9
      split at hr
      · cases hr
      · rename_i h0;exact ⟨p.2,h0,by rw [<- qT];exact hp,hr⟩
    · cases hr
  refine ⟨⟨λ id=>if kept id=true then g.bx id else none,Sd⟩,?_⟩;have Er:∀ id r,(if kept id=true then g.bx id else none)=some r->g.bx id=some r:=by
    intro id r hr;split at hr
    · exact hr
    · cases hr
  have B3:∀ b off,okG B ok0 g w b off->okG B ok0 ⟨λ id=>if kept id=true then g.bx id else none,Sd⟩ w b off:=by
    intro b off hk;rcases hk with hk | ⟨q1,q2,q3,q4⟩
    · exact .inl hk
    · refine .inr ⟨q1,q2,λ id he=>q3 id (Er id _ he),λ id u he=>?_⟩;obtain ⟨x,_,_,hx⟩:=eE id _ he;exact q4 x u hx
  have dD:∀ (gs IH:List Tag) (cs:List Value),Tf σ s gs IH->IB g σ.r w gs cs->IB ⟨λ id=>if kept id=true then g.bx id else none,Sd⟩ (λ _=>0) w IH cs:=by
    intro gs IH cs hn ht t' LM;obtain ⟨t,q1,q2,q3,q4,q5,q6,q7⟩:=hn t' LM;obtain ⟨k1,k2⟩:=ht t q1;refine ⟨λ h0=>absurd h0 q5,λ _=>⟨Ad,λ _=>?_⟩⟩;rw [q2];by_cases h0:t.id=0
    · exact .inl (k1 h0)
    · rcases (k2 h0).2 (q7.resolve_left h0) with hv | ⟨b,n,cap,cur,T,hv,hr,rest⟩
      · exact .inl hv
      · refine .inr ⟨b,n,cap,cur,T,hv,?_,by rw [q3];exact rest⟩;show Sd t'.id=_;rw [GK _ _ q6 h0,q3];exact hr
  have dH:∀ id ver,J0 kp.c σ id ver=true->σ.v id=ver/\kept id=true:=by
    intro id ver hk;unfold J0 at hk;rw [Bool.and_eq_true] at hk;exact ⟨Nat.eq_of_beq_eq_true hk.1,hk.2⟩
  exact {
    below:=h.below,hB:=h.hB,h0:=h.h0,hR:=h.hR,defers:=h.defers,lay:=h.lay,tm:=h.tm,nm:=λ id b f hi he=>h.nm id b f hi (Er id _ he)
    bb:=λ id b f he=>h.bb id b f (Er id _ he)
    bi:=λ i1 i2 b f f' e1 e2=>h.bi i1 i2 b f f' (Er i1 _ e1) (Er i2 _ e2)
    rb:=λ id b u he=>by
      obtain ⟨x,_,_,hx⟩:=eE id _ he;obtain ⟨q1,q2,q3⟩:=h.rb x b u hx;exact ⟨q1,q2,λ id' f hf=>q3 id' f (Er id' _ hf)⟩
    ri:=λ i1 i2 b u u' e1 e2=>by
      obtain ⟨x,Fb,Hr,Is⟩:=eE i1 _ e1;obtain ⟨y,NF,VW,qC⟩:=eE i2 _ e2;have:=h.ri x y b u u' Is qC;subst this;exact h4.inj Hr VW Fb
    con:=λ id c hc=>by
      have EH:JK (Nh σ kp.c (Ng kp.c σ kp.t []).2).1 id=some c:=hc;have hk:=h8 id c EH;have hn:=h6 id;rw [EH] at hn;have eF:kept id=true:=hk;cases c with
      | var t x IH=>
        obtain ⟨gs,Zc,qU⟩:=hn;obtain ⟨b,f,hb,hf,cs,T,hh,hr,PA,ht⟩:=h.pN Zc (λ _ _ _ he=>by cases he);exact .inr ⟨b,f,by simp only [eF,if_true];exact hb,hf,cs,T,hh,hr.mono (λ b o hk=>⟨B3 b o hk,rfl⟩),PA,dD gs IH cs qU ht⟩
      | arr e l fz=>
        rcases h.con id _ hn with ⟨JH,Mi⟩ | ⟨b,f,hb,hf,cur,T,ym,hh,Ji,BL,hm,Cj⟩
        · exact .inl ⟨by simp only [eF,if_true];exact JH,Mi⟩
        refine .inr ⟨b,f,by simp only [eF,if_true];exact hb,hf,cur,T,ym,hh,Ji,BL,hm,λ i x hi=>?_⟩;obtain ⟨ys,hy,hc⟩:=Cj i x hi;exact ⟨ys,hy.mono (λ b o hk=>⟨B3 b o hk,rfl⟩),hc⟩
      | val v=>
        obtain ⟨Zc,f,hv⟩:=hn;subst hv;obtain ⟨b,ff,hb,hf,u,T,hh,hr⟩:=h.pN Zc (λ _ _ _ he=>by cases he);obtain ⟨vs,M1,Lh⟩:=hr;cases vs with
        | nil=>exact .inr ⟨b,ff,by simp only [eF,if_true];exact hb,hf,u,T,hh,[],M1,trivial⟩
        | cons _ _=>exact Lh.elim
    slots:=λ t=>by
      show RepA _ _ _ w (Pr (Ng kp.c σ kp.t []).1 t) _;have hn:=Ot t;have hr:=h.slots t;revert hn;cases Pr (Ng kp.c σ kp.t []).1 t with
      | undef=>intro _;trivial
      | none=>intro hn;rw [(hn:σ.t t = .none)] at hr;exact hr
      | nils=>intro hn;rw [(hn:σ.t t = .nils)] at hr;exact hr
      | dat ty x IH=>
        intro hn;obtain ⟨gs,Zc,qU⟩:=hn;rw [Zc] at hr;obtain ⟨cs,r1,r2,r3⟩:=hr;exact ⟨cs,r1.mono (λ b o hk=>⟨B3 b o hk,rfl⟩),r2,dD gs IH cs qU r3⟩
      | ptr id ver off=>
        intro hn;obtain ⟨rfl,v,hv,hk⟩:=hn;rw [hv] at hr;obtain ⟨k1,k2⟩:=dH id v hk;obtain ⟨b,f,hb,hp⟩:=hr.2 k1;exact ⟨Au _,λ _=>⟨b,f,by simp only [k2,if_true];exact hb,hp⟩⟩
      | slw id ver=>
        intro hn;obtain ⟨rfl,v,hv,hk⟩:=hn;rw [hv] at hr;obtain ⟨k1,k2⟩:=dH id v hk;obtain ⟨e,l,fz,hc,hp⟩:=hr.2 k1;refine ⟨Au _,λ _=>⟨e,l,fz,h7 id k2 e l fz hc,?_⟩⟩;unfold Pg;simp only [k2,if_true];exact hp
      | slm id ver lo n=>
        intro hn;obtain ⟨rfl,v,hv,hk⟩:=hn;rw [hv] at hr;obtain ⟨k1,k2⟩:=dH id v hk;obtain ⟨e,l,fz,A,cap,hc,rest⟩:=hr.2 k1;refine ⟨Au _,λ _=>⟨e,l,fz,A,cap,h7 id k2 e l fz hc,?_⟩⟩;simp only [k2,if_true];exact rest
      | clo f qs=>
        intro hn;obtain ⟨ps,hv,rfl,hk⟩:=hn;rw [hv] at hr;obtain ⟨vs,M1,Lh⟩:=hr;refine ⟨vs,M1,?_⟩;clear M1 hv;induction ps generalizing vs with
        | nil=>cases vs with
          | nil=>trivial
          | cons _ _=>exact Lh.elim
        | cons p ps ih=>cases vs with
          | nil=>exact Lh.elim
          | cons u vs=>
            rw [List.all_cons,Bool.and_eq_true] at hk;obtain ⟨k1,k2⟩:=dH p.1 p.2 hk.1;refine ⟨⟨Au _,λ _=>?_⟩,ih hk.2 vs Lh.2⟩;obtain ⟨b,f,hb,hp⟩:=Lh.1.2 k1;exact ⟨b,f,by simp only [k2,if_true];exact hb,hp⟩
      | iov ty x=>intro hn;exact hn.elim
      | ioa e l=>intro hn;exact hn.elim
      | bxv e l=>intro hn;exact hn.elim
      | slp k n=>intro hn;exact hn.elim
      | fn f caps=>
        intro hn;rw [(hn:σ.t t = .fn f caps)] at hr;obtain ⟨vs,M1,Lh⟩:=hr;exact ⟨vs,M1,Lh.imp λ _ _ hp=>hp.mono B3⟩
      | aptr id ver i off=>intro hn;exact hn.elim
      | ept ty x off=>
        intro hn;rw [(hn:σ.t t = .ept ty x off)] at hr;exact JF.mono B3 hr
      | tup ds=>intro hn;exact hn.elim }
end
end Go.AM
end
