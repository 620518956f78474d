import Derived.Test.YtclpadlpcfnfmaaGreatAmL2
import Derived.Lib.ConvBytes
section
/- Appends: in place, or into a new row; strings as bytes. -/
namespace Go.AM
open Go.RowKit (Below)
set_option linter.unusedSectionVars false
variable [Lay]
section
variable {P : Program} {B : Bd} {ok0 : Nat → Nat → Prop} {w0 w w' : World} {g g' : G} {σ σ1 : St} {a : Act} {o : Oper} {E : Env}
theorem Ro {T U ty ET:TypeId} {ie:TypeInfo} {z:Value} {sz by_:Nat} (ht:P.underlying T=some (.slice ET)) (hi:P.info? ET=some ie) (hz:ie.zero=some z) (hsz:ie.size=sz) (hby:ie.bytes=by_)
  (hu:(∃ EU,P.underlying U=some (.slice EU))∨P.underlying U=some .string)
  {p:Option Addr} {n cap m:Nat} {x:Value} {olds news:List Value} (hlen:∀ w,(Builtin.lenOf x).run P w = .ok m w)
  (hx:∀ w',w'.heap=w.heap→(Builtin.firstCells sz m x).run P w' = .ok news.toArray w') (hnl:news.length=m*sz) (h1:∀ u∈news,u.oneCell'=true)
  (hp:(p=none∧n=0∧cap=0∧olds=[])∨∃ b cur TT y,p=some ⟨b,0,none⟩∧w.heap[b]? = some (.cells cur TT y)∧(y=(0,0)∨cur.size≤y.1)∧cur.size=cap*sz∧n≤cap∧olds=cur.toList.take (n*sz))
  (hroom:(n+m)*by_≤140737488355328) (hb0:0<by_):
  (∃ b cur TT y,p=some ⟨b,0,none⟩∧w.heap[b]? = some (.cells cur TT y)∧n+m≤cap∧
   (Builtin.append_ #[T,U] ty #[.slice p n cap,x]).run P w = .ok (.slice p (n+m) cap) (w.setRow b (CS cur.toList (n*sz) news).toArray))∨
  (p=none∧m=0∧(Builtin.append_ #[T,U] ty #[.slice p n cap,x]).run P w = .ok (.slice none 0 0) w)∨
  (∃ ncap,n+m≤ncap∧ncap≤maxLen∧(Builtin.append_ #[T,U] ty #[.slice p n cap,x]).run P w =
   .ok (.slice (some ⟨w.heap.size,0,none⟩) (n+m) ncap) (w.drew.alloc (.cells (olds.toArray++news.toArray++Builtin.zeroCells z.cells (ncap-(n+m))) ET))):=by
 have hle:n+m≤140737488355328:=Nat.le_trans (Nat.le_mul_of_pos_right _ hb0) hroom
 have hmx:n+m≤maxLen:=by unfold maxLen;omega
 by_cases hroomc:n+m≤cap
 ·rcases hp with ⟨rfl,rfl,rfl,rfl⟩ | ⟨b,cur,TT,y,rfl,hh,hun,hcs,hnc,rfl⟩
  ·have hm:m=0:=by omega
   subst hm
   refine .inr (.inl ⟨rfl,rfl,?_⟩)
   have hn0:news=[]:=List.eq_nil_of_length_eq_zero (by simpa using hnl)
   subst hn0
   have hx':=hx w rfl
   rcases hu with ⟨EU,hu⟩ | hu <;>
    simp [Builtin.append_,run_underlying ht,run_underlying hu,sizeOf,typeInfo,hi,hsz,hlen,hx']
  ·refine .inl ⟨b,cur,TT,y,rfl,hh,hroomc,?_⟩
   have hx':=hx w rfl
   have hst:=Iz P b (n*sz) TT y news 0 cur w hh hun (by rw [Nat.add_zero,hnl,hcs,← Nat.add_mul];exact Nat.mul_le_mul_right _ hroomc) h1
   simp only [Nat.add_zero] at hst
   have hadd:(⟨b,0,none⟩:Addr).add (n*sz)=⟨b,n*sz,none⟩:=by rw [Fv ⟨b,0,none⟩ rfl];simp
   rcases hu with ⟨EU,hu⟩ | hu <;>
    simp [Builtin.append_,run_underlying ht,run_underlying hu,sizeOf,typeInfo,hi,hsz,hlen,hroomc,hx',hadd,hst,CS]
 ·have hlt:cap<n+m:=by omega
  have hge:=grownCap_ge w (n+m) cap ET
  have hgm:=grownCap_le_maxLen w (n+m) cap ET hmx
  refine .inr (.inr ⟨grownCap w (n+m) cap ET,hge,hgm,?_⟩)
  have h63:¬ (9223372036854775807<((n:Int)+(m:Int))):=by omega
  have hfit:=growslice_fits (bytes:=by_) hlt hroom
  have h48:¬ (281474976710656<Builtin.nextslicecap (n+m) cap*by_):=by omega
  have hx':=hx w.drew rfl
  have hold:(Builtin.firstCells sz n (.slice p n cap)).run P w.drew = .ok olds.toArray w.drew:=by
   rcases hp with ⟨rfl,rfl,rfl,rfl⟩ | ⟨b,cur,TT,y,rfl,hh,hun,hcs,hnc,rfl⟩
   ·simp [Builtin.firstCells]
   ·refine run_firstCells_some (P:=P) w.drew sz n ⟨b,0,none⟩ n cap _ ?_ fun j u hj=>?_
    ·rw [List.length_take]
     have:n*sz≤cap*sz:=Nat.mul_le_mul_right _ hnc
     simp;omega
    ·rw [Fv ⟨b,0,none⟩ rfl]
     rw [List.getElem?_take] at hj
     split at hj
     ·simp only [World.cell?,Nat.zero_add]
      rw [show w.drew.heap=w.heap from rfl,hh]
      simpa using hj
     ·cases hj
  rcases hu with ⟨EU,hu⟩ | hu
  ·simp [Builtin.append_,run_underlying ht,run_underlying hu,sizeOf,typeInfo,zeroValue,hi,hz,hsz,hby,hlen,hroomc,h63,h48,Question.forced,hold,hx',newRow,grownCap]
   congr 2
   apply Array.ext'
   simp [List.append_assoc]
  ·simp [Builtin.append_,run_underlying ht,run_underlying hu,sizeOf,typeInfo,zeroValue,hi,hz,hsz,hby,hlen,hroomc,h63,h48,Question.forced,hold,hx',newRow,grownCap]
   congr 2
   apply Array.ext'
   simp [List.append_assoc]
theorem FV.append {ok:Nat→Nat→Prop} {e:Ty} {l1 l2:List e.D} {c1 c2:List Value} (h1:FV ok w e l1 c1) (h2:FV ok w e l2 c2):FV ok w e (l1++l2) (c1++c2):=by
 refine ⟨by rw [List.length_append,List.length_append,h1.1,h2.1,Nat.add_mul],fun i x hi=>?_⟩
 by_cases hlt:i<l1.length
 ·rw [List.getElem?_append_left hlt] at hi
  obtain ⟨ys,hy,hc⟩:=h1.2 i x hi
  refine ⟨ys,hy,fun j u hj=>?_⟩
  have h3:=hc j u hj
  rw [List.getElem?_append_left (List.getElem?_eq_some_iff.1 h3).1]
  exact h3
 ·rw [List.getElem?_append_right (by omega)] at hi
  obtain ⟨ys,hy,hc⟩:=h2.2 _ x hi
  refine ⟨ys,hy,fun j u hj=>?_⟩
  have h3:=hc j u hj
  have hle:l1.length*e.sz≤i*e.sz:=Nat.mul_le_mul_right _ (by omega)
  rw [List.getElem?_append_right (by rw [h1.1];omega),h1.1,show i*e.sz+j-l1.length*e.sz=(i-l1.length)*e.sz+j by rw [Nat.sub_mul];omega]
  exact h3
theorem Inv.vS (h:Inv B ok0 w0 g σ a w) {id b n m cap:Nat} {e:Ty} {l l':List e.D} {news:List Value} {cur:Array Value} {TT:TypeId} (hrw:g.rw id=some (b,n*e.sz))
    (hh:w.heap[b]? = some (.cells cur TT (0,0))) (hsz:cur.size=cap*e.sz) (hroom:n+m≤cap) (hcm:cap≤maxLen) (hid:id≠0) (hl:RepD (okG B ok0 g w) w (.sl e) l [.slice (some ⟨b,0,none⟩) n cap])
    (hl':FV (okG B ok0 g w) w e l' news) (hm:l'.length=m) (hTT:e.sg=0→TT=Lay.byt):
    ∃ g',Inv B ok0 w0 g' (σ.Dw id) a (w.setRow b (CS cur.toList (n*e.sz) news).toArray)∧
      RepA (okG B ok0 g' (w.setRow b (CS cur.toList (n*e.sz) news).toArray)) g' (σ.Dw id) (w.setRow b (CS cur.toList (n*e.sz) news).toArray)
        (.dat (.sl e) (l++l') [⟨0,id,σ.r id+1,e.sg⟩]) (.slice (some ⟨b,0,none⟩) (n+m) cap):=by
  obtain ⟨hBb,hbs,hnb⟩:=h.rb id b _ hrw
  have hnl:news.length=m*e.sz:=by rw [hl'.1,hm]
  have hfit:n*e.sz+news.length≤cur.toList.length:=by
    rw [hnl,Array.length_toList,hsz,← Nat.add_mul];exact Nat.mul_le_mul_right _ hroom
  generalize hw':w.setRow b (CS cur.toList (n*e.sz) news).toArray=w'
  have hsize:w'.heap.size=w.heap.size:=by rw [← hw'];exact setRow_size _ _ _
  have hother:∀ k,k≠b→w'.heap[k]? = w.heap[k]?:=fun k hk=>by rw [← hw'];exact setRow_other w b k _ hk
  have hnew:w'.heap[b]? = some (.cells (CS cur.toList (n*e.sz) news).toArray TT (0,0)):=by rw [← hw'];exact setRow_heap w b _ _ _ _ hh
  have hcell:∀ b' off,okG B ok0 g w b' off→w'.cell? ⟨b',off,none⟩=w.cell? ⟨b',off,none⟩:=by
    intro b' off hk
    by_cases hbb:b'=b
    · subst hbb
      have hlt:off<n*e.sz:=by
        rcases hk with hk | ⟨_,_,_,q4⟩
        · obtain ⟨q1,_,q3⟩:=h.h0 _ _ hk
          rcases hBb with hB | ⟨u0,hB,hle⟩
          · omega
          · have:=q3 u0 hB;omega
        · exact q4 id _ hrw
      simp only [World.cell?,hnew,hh]
      unfold CS
      simp only [Option.isSome_none,Bool.false_eq_true,if_false,List.getElem?_toArray]
      rw [List.append_assoc,List.getElem?_append_left (by rw [List.length_take];omega),List.getElem?_take,if_pos hlt]
      simp
    · simp only [World.cell?,hother b' hbb]
  have hx:Ext (okG B ok0 g w) (okG B ok0 (g.IX id (some (b,(n+m)*e.sz))) w') g (g.IX id (some (b,(n+m)*e.sz))) σ (σ.Dw id) w w':=
    { cell := fun b' off hk => by
        refine ⟨?_,hcell b' off hk⟩
        rcases hk with hk | ⟨q1,q2,q3,q4⟩
        · exact .inl hk
        · refine .inr ⟨q1,by rw [hsize];exact q2,q3,fun id' u he=>?_⟩
          simp only [G.IX,AK] at he
          split at he
          · cases he
            have:=q4 id _ hrw
            rw [Nat.add_mul]
            omega
          · exact q4 id' u he
      box:=fun id' ver hv=>⟨hv,fun he=>⟨he,fun b' f hb=>⟨f,hb⟩,fun e' l2 fz hc=>⟨l2,fz,hc,rfl⟩,fun hn=>hn,fun b' f cur' T y _ hb hh'=>⟨cur',y,(hother b' (fun e=>by subst e;exact hnb id' f hb)).trans hh',rfl⟩⟩⟩
      row:=fun id' ver h0 hv=>by
        simp only [St.Dw,AK,G.IX]
        by_cases hi:id'=id
        · subst hi
          simp only [if_true]
          exact ⟨by omega,fun he=>by omega⟩
        · simp only [if_neg hi]
          exact ⟨hv,fun he=>⟨he,fun b' u hbu=>⟨hbu,hother b' (fun e=>by subst e;exact hi (h.ri _ _ _ _ _ hbu hrw))⟩⟩⟩ }
  refine ⟨g.IX id (some (b,(n+m)*e.sz)),?_,?_⟩
  · exact {
      below:=by
        rw [← hw']
        refine RR (by rcases hBb with hB | ⟨u0,hB,_⟩;exact .inl hB;exact .inr (.inr ⟨u0,hB⟩)) (fun u cur' T y hq hlt hh'=>?_) (fun _ cur' T y hh'=>by rw [hh] at hh';cases hh';rw [List.size_toArray,EJ hfit,Array.length_toList]) h.below
        rw [hh] at hh'
        cases hh'
        refine ⟨by rw [List.size_toArray,EJ hfit,Array.length_toList],fun o ho=>?_⟩
        have hu:u≤n*e.sz:=by
          rcases hBb with hB | ⟨u0,hB,hle⟩
          · omega
          · rw [← (h.hR b u0 hB).2.2 u hq] at hle;exact hle
        rw [List.getElem?_toArray,Rt hfit (.inl (by omega)),Array.getElem?_toList]
      hB:=h.hB,h0:=h.h0,hR:=h.hR,defers:=h.defers,lay:=h.lay,tm:=h.tm,nm:=h.nm
      bb:=fun id' b' f hb=>by rw [hsize];exact h.bb id' b' f hb
      bi:=h.bi
      rb:=fun id' b' u hb=>by
        simp only [G.IX,AK] at hb
        split at hb
        · cases hb;exact ⟨by rcases hBb with hB | ⟨u0,hB,hle⟩;exact .inl hB;exact .inr ⟨u0,hB,by rw [Nat.add_mul];omega⟩,by rw [hsize];exact hbs,hnb⟩
        · rw [hsize];exact h.rb id' b' u hb
      ri:=fun i1 i2 b' u1 u2 e1 e2=>by
        simp only [G.IX,AK] at e1 e2
        split at e1 <;> split at e2
        · simp_all
        · cases e1;rename_i q1 q2;rw [q1];exact (h.ri _ _ _ _ _ e2 hrw).symm
        · cases e2;rename_i q1 q2;rw [q2];exact h.ri _ _ _ _ _ e1 hrw
        · exact h.ri _ _ _ _ _ e1 e2
      con:=fun id' c hc=>by
        rcases h.con id' c hc with hn | ⟨b',f,hb,hk⟩
        · exact .inl hn
        exact .inr ⟨b',f,hb,hk.ext hx (hother b' (fun e=>by subst e;exact hnb id' f hb))⟩
      slots:=fun t=>(h.slots t).ext hx }
  · obtain ⟨p',n',DN,hv,hln,hn,hm',hc⟩:=hl
    cases hv
    refine ⟨_,⟨_,_,_,rfl,by rw [List.length_append,hln,hm],hroom,hcm,fun i x hi=>?_⟩,rfl,fun t ht=>?_⟩
    · by_cases hlt:i<l.length
      · rw [List.getElem?_append_left hlt] at hi
        obtain ⟨A,hA,hs,ys,hy,hyc⟩:=hc i x hi
        refine ⟨A,hA,hs,ys,hy.mono hx.cell,fun j u hj=>?_⟩
        obtain ⟨h1,h2⟩:=hyc j u hj
        exact ⟨(hx.cell _ _ h1).1,(hcell _ _ h1).trans h2⟩
      · rw [List.getElem?_append_right (by omega)] at hi
        obtain ⟨ys,hy,hyc⟩:=hl'.2 _ x hi
        refine ⟨_,rfl,rfl,ys,hy.mono hx.cell,fun j u hj=>?_⟩
        have h1:=hyc j u hj
        have h2:=(List.getElem?_eq_some_iff.1 h1).1
        have hle:n*e.sz≤i*e.sz:=Nat.mul_le_mul_right _ (by omega)
        rw [hln] at h1 h2
        rw [Nat.sub_mul] at h1 h2
        refine ⟨.inr ⟨by rcases hBb with hB | ⟨u0,hB,_⟩;exact .inl hB;exact .inr ⟨u0,hB⟩,by rw [hsize];exact hbs,fun id'=>hnb id' false,fun id' u' he=>?_⟩,?_⟩
        · simp only [G.IX,AK] at he
          split at he
          · cases he;show 0+(i*e.sz+j)<_;rw [Nat.add_mul];omega
          · rename_i hne;exact absurd (h.ri _ _ _ _ _ he hrw) hne
        · simp only [World.cell?,hnew,Nat.zero_add]
          unfold CS
          simp only [Option.isSome_none,Bool.false_eq_true,if_false,List.getElem?_toArray]
          rw [List.append_assoc,List.getElem?_append_right (by rw [List.length_take];omega),List.getElem?_append_left (by rw [List.length_take];omega),← h1]
          congr 1
          rw [List.length_take]
          omega
    · have ht':t=⟨0,id,σ.r id+1,e.sg⟩:=by simpa using ht
      subst ht'
      refine ⟨fun h0=>absurd h0 hid,fun _=>⟨by simp [St.Dw,AK],fun _=> .inr ⟨b,n+m,cap,_,TT,rfl,by simp [G.IX,AK,Qv],hnew,?_,hroom,hcm,hTT⟩⟩⟩
      show _=cap*PN e.sg
      rw [Qv,List.size_toArray,EJ hfit,Array.length_toList,hsz]
theorem UW {d sz id:Nat}:∀ {gs:List Tag},HM σ d sz gs=some id→∃ τ∈gs,τ.off=0∧τ.sz=sz∧((τ.id=0∧id=rid d 0)∨(τ.id≠0∧σ.r τ.id = τ.ver∧id = τ.id))
 | [],h=>by cases h
 | t :: ts,h=>by
  unfold HM at h
  split at h
  ·rename_i h1
   split at h
   ·rename_i h2;cases h;exact ⟨t,by simp,h1.1,h1.2, .inl ⟨h2,rfl⟩⟩
   ·rename_i h2
    split at h
    ·rename_i h3;cases h;exact ⟨t,by simp,h1.1,h1.2, .inr ⟨h2,h3,rfl⟩⟩
    ·cases h
  ·obtain ⟨τ,hm,hr⟩:=UW h
   exact ⟨τ,by simp [hm],hr⟩
theorem UX (hE:EnvOk P E) (hI:Inv B ok0 w0 g σ a w) (hd:∀ d,o.dst=some d→d<a.tmps.size) {T U ET:TypeId} {ie:TypeInfo} {c:Call} (ho:o.op = .call c) (hc:c.callee = .builtin .append) {s x:Operand}
  (ha:c.args.toList=[s,x]) (hat:c.argTypes.toList=[T,U]) {e:Ty} (hT:E.ty T=some (.sl e)) (hu:P.underlying T=some (.slice ET)) (hie:P.info? ET=some ie)
  (hU:(∃ EU,P.underlying U=some (.slice EU))∨P.underlying U=some .string)
  {l:List e.D} (hl:(opd σ s).as (.sl e)=some l) {d id:Nat} (hid:HM σ d e.sg ((opd σ s).tags (.sl e))=some id) {l':List e.D} {news:List Value} {m:Nat} (hrows:FV (okG B ok0 g w) w e l' news) (hm:l'.length=m)
  (hlen:∀ w,(Builtin.lenOf (a.eval x)).run P w = .ok m w) (hx:∀ w',w'.heap=w.heap→(Builtin.firstCells e.sz m (a.eval x)).run P w' = .ok news.toArray w') (h1:∀ u∈news,u.oneCell'=true):
  CL P B ok0 w0 (.go (Bw (l.length+m) (E.by_ T)) ((σ.Dw id).BO o.dst (.dat (.sl e) (l++l') [⟨0,id,σ.r id+1,e.sg⟩]))) o a w:=by
 have ha':c.args = #[s,x]:=by rw [← Array.toArray_toList (xs:=c.args),ha]
 have hat':c.argTypes = #[T,U]:=by rw [← Array.toArray_toList (xs:=c.argTypes),hat]
 obtain ⟨ET',ie',hu',hie',hsz,hz,_⟩:=(hE.ty T _ hT).und
 rw [hu] at hu';cases hu'
 rw [hie] at hie';cases hie'
 obtain ⟨hby,hbp⟩:=hE.by_ T e ET ie hT hu hie
 obtain ⟨τ,hτ,hoff,hτs,hτid⟩:=UW hid
 obtain ⟨cs,hrep,hv,htags⟩:=Rp hl (DE hI s)
 have hrep':=hrep
 obtain ⟨p,n,cap,rfl,hln,hn,hcm,hcc⟩:=hrep
 have hvs:a.eval s = .slice p n cap:=hv
 have hid0:id≠0:=by
  rcases hτid with ⟨_,rfl⟩ | ⟨h,_,rfl⟩
  ·exact Qt d 0
  ·exact h
 -- nil, or a row of one's own
 have hown:(p=none∧n=0∧cap=0)∨∃ b cur TT,p=some ⟨b,0,none⟩∧g.rw id=some (b,n*e.sz)∧w.heap[b]? = some (.cells cur TT (0,0))∧cur.size=cap*e.sz∧(e.sg=0→TT=Lay.byt):=by
  obtain ⟨q1,q2⟩:=htags τ hτ
  rw [hoff] at q1 q2
  rcases hτid with ⟨h0,_⟩ | ⟨h0,hr,rfl⟩
  ·have:=q1 h0
   simp at this
   exact .inl ⟨this.1,this.2.1,this.2.2⟩
  ·rcases (q2 h0).2 hr with hv | ⟨b,n',DN,cur,TT,hv,hrw,hh,hcs,_,_,hty⟩
   ·simp at hv
    exact .inl ⟨hv.1,hv.2.1,hv.2.2⟩
   ·simp at hv
    obtain ⟨rfl,rfl,rfl⟩:=hv
    rw [hτs] at hrw hcs hty
    rw [Qv] at hrw hcs
    exact .inr ⟨b,cur,TT,rfl,hrw,hh,hcs,hty⟩
 refine Iy hd fun hcnd=>?_
 have hroom:(n+m)*E.by_ T≤140737488355328:=by rw [← hln];exact of_decide_eq_true hcnd
 have hzc:(valOf e e.zcells).cells.size=e.sz:=by
  rw [FO (Eg (fun _ _=>True) w e),List.size_toArray,(Eg (fun _ _=>True) w e).len]
 have hrun:∀ v w',(Builtin.append_ #[T,U] o.type #[.slice p n cap,a.eval x]).run P w = .ok v w'→(execOp a.eval o).run P w = .ok (.value v) w':=by
  intro v w' hv'
  unfold execOp;rw [ho]
  simp [resolve,hc,ha',hat',invoke,builtin,hvs,hv']
 -- the old row's cells
 have holds:∃ olds,((p=none∧n=0∧cap=0∧olds=[])∨∃ b cur TT y,p=some ⟨b,0,none⟩∧w.heap[b]? = some (.cells cur TT y)∧(y=(0,0)∨cur.size≤y.1)∧cur.size=cap*e.sz∧n≤cap∧olds=cur.toList.take (n*e.sz))∧
   FV (okG B ok0 g w) w e l olds:=by
  rcases hown with ⟨rfl,rfl,rfl⟩ | ⟨b,cur,TT,rfl,hrw,hh,hcs,_⟩
  ·have:l=[]:=List.eq_nil_of_length_eq_zero hln
   subst this
   exact ⟨[], .inl ⟨rfl,rfl,rfl,rfl⟩,⟨by simp,fun i x hi=>by simp at hi⟩⟩
  ·refine ⟨_, .inr ⟨b,cur,TT,_,rfl,hh, .inl rfl,hcs,hn,rfl⟩,⟨?_,fun i x hi=>?_⟩⟩
   ·rw [List.length_take,hln,Array.length_toList,hcs]
    have:n*e.sz≤cap*e.sz:=Nat.mul_le_mul_right _ hn
    omega
   ·obtain ⟨A,hA,hs,ys,hy,hyc⟩:=hcc i x hi
    cases hA
    refine ⟨ys,hy,fun j u hj=>?_⟩
    obtain ⟨k1,k2⟩:=hyc j u hj
    simp only [World.cell?,hh,Nat.zero_add] at k2
    have hlt:i*e.sz+j<n*e.sz:=by
     have:=(List.getElem?_eq_some_iff.1 hj).1
     rw [hy.len] at this
     have hin:=(List.getElem?_eq_some_iff.1 hi).1
     have:(i+1)*e.sz≤n*e.sz:=Nat.mul_le_mul_right _ (by omega)
     rw [Nat.add_mul] at this
     omega
    rw [List.getElem?_take,if_pos hlt]
    simpa using k2
 obtain ⟨olds,hpo,hro⟩:=holds
 have hnl:news.length=m*e.sz:=by rw [hrows.1,hm]
 rcases Ro (P:=P) (ty:=o.type) hu hie hz hsz hby hU hlen hx hnl h1 hpo hroom hbp with ⟨b,cur,TT,ym,rfl,hh,hrm,hr⟩ | ⟨rfl,rfl,hr⟩ | ⟨ncap,hge,hgm,hr⟩
 ·rcases hown with ⟨hp,_⟩ | ⟨b',cur',TT',hp,hrw,hh',hcs,hty⟩
  ·cases hp
  ·cases hp
   rw [hh] at hh';cases hh'
   obtain ⟨g',hI',hR⟩:=hI.vS hrw hh hcs hrm hcm hid0 hrep' hrows hm hty
   exact ⟨g',_,_,hrun _ _ hr,hI',hR⟩
 ·-- nothing behind nothing
  have hn0:n=0∧cap=0:=by
   rcases hown with ⟨_,h2,h3⟩ | ⟨b,cur,TT,hp,_⟩
   ·exact ⟨h2,h3⟩
   ·cases hp
  obtain ⟨rfl,rfl⟩:=hn0
  have hl0:l=[]:=List.eq_nil_of_length_eq_zero hln
  have hl0':l'=[]:=List.eq_nil_of_length_eq_zero hm
  subst hl0;subst hl0'
  obtain ⟨hI',hx'⟩:=hI.lP (Below.refl w.heap.size w) (ρ:=fun i=>if i=id then some none else none) (σ':=σ.Dw id) (g':=g.IX id none)
   (by unfold G.IX;congr 1;funext i;rw [AK];by_cases hi:i=id <;> simp [hi])
   (by unfold St.Dw;congr 1;funext i;rw [AK];by_cases hi:i=id <;> simp [hi])
   (fun i b u hi=>by split at hi <;> cases hi)
   (fun i j b u u' hi hj=>by split at hi <;> cases hi)
  refine ⟨_,_,_,hrun _ _ hr,hI',[.slice none 0 0],⟨none,0,0,rfl,rfl,Nat.le_refl _,Nat.zero_le _,fun i x hi=>by simp at hi⟩,rfl,fun t ht=>?_⟩
  have ht':t=⟨0,id,σ.r id+1,e.sg⟩:=by simpa using ht
  subst ht'
  exact ⟨fun h0=>absurd h0 hid0,fun _=>⟨by simp [St.Dw,AK],fun _=> .inl rfl⟩⟩
 ·obtain ⟨g',hI',hR⟩:=Zf hI (w':=w.drew.alloc (.cells (olds.toArray++news.toArray++Builtin.zeroCells (valOf e e.zcells).cells (ncap-(n+m))) ET)) (nb:=w.heap.size) (id:=id) (n:=n+m) (cap:=ncap)
   ((Rq w).trans (Fl w.drew _)) (Nat.le_refl _) (EW w.drew _) (hro.append hrows) (by rw [List.length_append,hln,hm]) (fun j u hj=>by
    rw [Array.getElem?_append_left (by simpa using (List.getElem?_eq_some_iff.1 hj).1)]
    simpa using hj)
   (by
    rw [Array.size_append,Array.size_append,List.size_toArray,List.size_toArray,size_zeroCells,hzc,hro.1,hln,hnl,← Nat.add_mul,← Nat.add_mul]
    congr 1
    omega) hge hgm hid0 (hE.sg0 hT hu)
  exact ⟨g',_,_,hrun _ _ hr,hI',hR⟩
theorem rM (hE:EnvOk P E) (hI:Inv B ok0 w0 g σ a w) (hd:∀ d,o.dst=some d→d<a.tmps.size) {T U:TypeId} {c:Call} (ho:o.op = .call c) (hc:c.callee = .builtin .append) {s x:Operand}
  (ha:c.args.toList=[s,x]) (hat:c.argTypes.toList=[T,U]) {id ver:Nat} (hs:opd σ s = .slw id ver):CL P B ok0 w0 (JV E T U o σ id ver (opd σ x)) o a w:=by
 unfold JV
 split
 ·rename_i d e e' l hdst hT hcon
  split
  ·rename_i hvp
   have hver:=hvp.1
   have hidp:id<pid0:=Nat.le_of_ble_eq_true hvp.2
   split
   ·rename_i l' y hl hy
    obtain ⟨ee,hll⟩:=CR hl
    have ee2:e'=e:=by cases ee;rfl
    subst ee2
    have hll':l=l':=hll
    subst hll'
    unfold Oj at hy
    split at hy
    ·rename_i eU hU
     obtain ⟨EU,_,huU,_⟩:=(hE.ty U _ hU).und
     obtain ⟨ET,ie,hu,hie,hsz,hz,_⟩:=(hE.ty T _ hT).und
     obtain ⟨hby,hbp⟩:=hE.by_ T e' ET ie hT hu hie
     have rs:=DE hI s
     rw [hs] at rs
     obtain ⟨e2,l2,fz2,hc2,hsw⟩:=rs.2 hver
     rw [hcon] at hc2;cases hc2
     obtain ⟨px,nx,capx,news,hvx,hlx,_,_,hrows,h1,hcell⟩:=Mi hI hy (DE hI x)
     have ha':c.args = #[s,x]:=by rw [← Array.toArray_toList (xs:=c.args),ha]
     have hat':c.argTypes = #[T,U]:=by rw [← Array.toArray_toList (xs:=c.argTypes),hat]
     refine Iy hd fun hcnd=>?_
     have hroom:(List.length (α:=e'.D) l+nx)*E.by_ T≤140737488355328:=by rw [← hlx];exact of_decide_eq_true hcnd
     have hnl:news.length=nx*e'.sz:=by rw [hrows.1,hlx]
     have hzc:(valOf e' e'.zcells).cells.size=e'.sz:=by
      rw [FO (Eg (fun _ _=>True) w e'),List.size_toArray,(Eg (fun _ _=>True) w e').len]
     have hfirst:∀ w',w'.heap=w.heap→(Builtin.firstCells e'.sz nx (a.eval x)).run P w' = .ok news.toArray w':=by
      intro w' hw'
      rw [hvx]
      rcases hcell with h0 | ⟨A,hA,hsA,hc'⟩
      ·subst h0
       have:news=[]:=List.eq_nil_of_length_eq_zero (by rw [hnl,Nat.zero_mul])
       subst this
       cases px with
       | none=>simp [Builtin.firstCells]
       | some A=>exact run_firstCells_some (P:=P) w' e'.sz 0 A 0 capx [] (by simp) (fun j u hj=>by simp at hj)
      ·subst hA
       refine run_firstCells_some (P:=P) w' e'.sz nx A nx capx news (by rw [hnl]) fun j u hj=>?_
       rw [Fv A hsA]
       have:=hc' j u hj
       simp only [World.cell?,hw'] at this ⊢
       exact this
     have hrun:∀ sv v w',a.eval s=sv→(Builtin.append_ #[T,U] o.type #[sv,a.eval x]).run P w = .ok v w'→(execOp a.eval o).run P w = .ok (.value v) w':=by
      intro sv v w' hsv hv'
      unfold execOp;rw [ho]
      simp [resolve,hc,ha',hat',invoke,builtin,hsv,hv']
     -- the rows of the old content, for whatever cells hold them
     have hver':(σ.BW id (.arr e' (l++y) false)).v id = σ.v id+1:=by simp [St.BW,AK]
     have hcon':(σ.BW id (.arr e' (l++y) false)).c id=some (.arr e' (l++y) false):=by simp [St.BW,AK]
     rcases hsw with ⟨hbn,hl0,hvs⟩ | ⟨b,f,cap,cur,TT,ym,hb,hh,hcs,hn,hcm,hvs⟩
     ·-- nil
      have hl00:l=[]:=List.eq_nil_of_length_eq_zero hl0
      subst hl00
      rcases Ro (P:=P) (ty:=o.type) hu hie hz hsz hby (.inl ⟨EU,huU⟩) (p:=none) (n:=0) (cap:=0) (olds:=[]) (fun w=>by rw [hvx];rfl) hfirst hnl h1 (.inl ⟨rfl,rfl,rfl,rfl⟩) hroom hbp with
       ⟨b,cur,TT,y',hp,_⟩ | ⟨_,hm0,hr⟩ | ⟨ncap,hge,hgm,hr⟩
      ·cases hp
      ·subst hm0
       have hy0:y=[]:=List.eq_nil_of_length_eq_zero hlx
       subst hy0
       exact ⟨_,_,_,hrun _ _ _ hvs hr,hI.vX id e',by rw [hver'];exact Nat.le_refl _,fun _=>⟨e',[],false,hcon', .inl ⟨by simp [AK],rfl,rfl⟩⟩⟩
      ·refine ⟨g.DA id w.heap.size false,_,_,hrun _ _ _ hvs hr,hI.BW hidp (w':=w.drew.alloc (.cells ((([]:List Value).toArray++news.toArray++Builtin.zeroCells (valOf e' e'.zcells).cells (ncap-(0+nx)))) ET)) ((Rq w).trans (Fl w.drew _)) (Nat.le_refl _) ((Array.getElem?_eq_some_iff.1 (EW w.drew _)).1) (fun ok g' σ' hx'=>?_),?_⟩
       ·refine ⟨rfl,_,ET,_,EW w.drew _, .inl rfl,?_,by rw [List.nil_append];omega,fun i z hi=>?_⟩
        ·rw [List.nil_append,hlx];simp [hnl]
        ·rw [List.nil_append] at hi
         obtain ⟨ys,hyr,hyc⟩:=hrows.2 i z hi
         refine ⟨ys,hyr.mono hx'.cell,fun j u hj=>?_⟩
         have:=hyc j u hj
         have hlt:=(List.getElem?_eq_some_iff.1 this).1
         rw [Array.getElem?_append_left (by simpa using hlt)]
         simpa using this
       ·refine ⟨by rw [hver'];exact Nat.le_refl _,fun _=>⟨e',_,false,hcon', .inr ⟨w.heap.size,false,ncap,_,ET,_,by simp [G.DA,AK],EW w.drew _,?_,by rw [List.nil_append,hlx];omega,hgm,by rw [List.nil_append,hlx];simp⟩⟩⟩
        rw [Array.size_append,Array.size_append,List.size_toArray,List.size_toArray,size_zeroCells,hzc,hnl,List.length_nil,Nat.zero_add,← Nat.add_mul]
        congr 1
        omega
     ·obtain ⟨hf',cur2,TT2,y2,hh2,hmk,hsz2,hmx2,hrow⟩:=hI.Hn hb hcon
      rw [hh] at hh2;cases hh2
      have hff:f=false:=hf'
      subst hff
      have hctl:cur.toList.length=cur.size:=Array.length_toList
      have hnc:List.length (α:=e'.D) l*e'.sz≤cap*e'.sz:=Nat.mul_le_mul_right _ hn
      have hold:∀ (i:Nat) (z:e'.D),l[i]? = some z→∀ (ys:List Value),ys.length=e'.sz→∀ j,j<ys.length→i*e'.sz+j<List.length (α:=e'.D) l*e'.sz:=by
       intro i z hi ys hys j hj
       have h3:=(List.getElem?_eq_some_iff.1 hi).1
       have:(i+1)*e'.sz≤List.length (α:=e'.D) l*e'.sz:=Nat.mul_le_mul_right _ h3
       rw [Nat.add_mul] at this
       omega
      rcases Ro (P:=P) (ty:=o.type) hu hie hz hsz hby (.inl ⟨EU,huU⟩) (p:=some ⟨b,0,none⟩) (n:=List.length (α:=e'.D) l) (cap:=cap) (olds:=cur.toList.take (List.length (α:=e'.D) l*e'.sz)) (fun w=>by rw [hvx];rfl) hfirst hnl h1 (.inr ⟨b,cur,TT,ym,rfl,hh,hmk.un,hcs,hn,rfl⟩) hroom hbp with
       ⟨b',cur',TT',y',hp,hh',hrm,hr⟩ | ⟨hp,_⟩ | ⟨ncap,hge,hgm,hr⟩
      ·cases hp
       rw [hh] at hh';cases hh'
       have hfit:List.length (α:=e'.D) l*e'.sz+news.length≤cur.toList.length:=by
        rw [hnl,hctl,hcs,← Nat.add_mul];exact Nat.mul_le_mul_right _ hrm
       have hnew:=setRow_heap w b _ (CS cur.toList (List.length (α:=e'.D) l*e'.sz) news).toArray _ _ hh
       refine ⟨g,_,_,hrun _ _ _ hvs hr,hI.Zg8 hb (fun ok σ' hx'=>?_) (fun cur' T' _ hh3=>by rw [hh] at hh3;cases hh3;rw [List.size_toArray,EJ hfit,hctl]),?_⟩
       ·refine ⟨rfl,_,TT,_,hnew,hmk.eq (by rw [List.size_toArray,EJ hfit,hctl]),?_,by rw [List.length_append,hlx];omega,fun i z hi=>?_⟩
        ·rw [List.length_append,hlx,Nat.add_mul,List.size_toArray,EJ hfit,hctl,hcs,← Nat.add_mul];exact Nat.mul_le_mul_right _ hrm
        ·by_cases hlt:i<List.length (α:=e'.D) l
         ·rw [List.getElem?_append_left hlt] at hi
          obtain ⟨ys,hyr,hyc⟩:=hrow i z hi
          refine ⟨ys,hyr.mono hx'.cell,fun j u hj=>?_⟩
          have h3:=hold i z hi ys hyr.len j (List.getElem?_eq_some_iff.1 hj).1
          rw [List.getElem?_toArray]
          unfold CS
          rw [List.append_assoc,List.getElem?_append_left (by rw [List.length_take];omega),List.getElem?_take,if_pos h3]
          simpa using hyc j u hj
         ·rw [List.getElem?_append_right (by omega)] at hi
          obtain ⟨ys,hyr,hyc⟩:=hrows.2 _ z hi
          refine ⟨ys,hyr.mono hx'.cell,fun j u hj=>?_⟩
          have h3:=hyc j u hj
          have h4:=(List.getElem?_eq_some_iff.1 h3).1
          have h5:List.length (α:=e'.D) l*e'.sz≤i*e'.sz:=Nat.mul_le_mul_right _ (by omega)
          rw [Nat.sub_mul] at h3 h4
          rw [List.getElem?_toArray]
          unfold CS
          rw [List.append_assoc,List.getElem?_append_right (by rw [List.length_take];omega),List.getElem?_append_left (by rw [List.length_take];omega),← h3]
          congr 1
          rw [List.length_take]
          omega
       ·refine ⟨by rw [hver'];exact Nat.le_refl _,fun _=>⟨e',_,false,hcon', .inr ⟨b,false,cap,_,TT,_,hb,hnew,?_,by rw [List.length_append,hlx];exact hrm,hcm,by rw [List.length_append,hlx]⟩⟩⟩
        rw [List.size_toArray,EJ hfit,hctl,hcs]
      ·cases hp
      ·refine ⟨g.DA id w.heap.size false,_,_,hrun _ _ _ hvs hr,hI.BW hidp (w':=w.drew.alloc (.cells (((cur.toList.take (List.length (α:=e'.D) l*e'.sz)).toArray++news.toArray++Builtin.zeroCells (valOf e' e'.zcells).cells (ncap-(List.length (α:=e'.D) l+nx)))) ET)) ((Rq w).trans (Fl w.drew _)) (Nat.le_refl _) ((Array.getElem?_eq_some_iff.1 (EW w.drew _)).1) (fun ok g' σ' hx'=>?_),?_⟩
       ·have hol:(cur.toList.take (List.length (α:=e'.D) l*e'.sz)).length=List.length (α:=e'.D) l*e'.sz:=by rw [List.length_take,hctl];omega
        refine ⟨rfl,_,ET,_,EW w.drew _, .inl rfl,?_,by rw [List.length_append,hlx];omega,fun i z hi=>?_⟩
        ·rw [List.length_append,hlx,Nat.add_mul,Array.size_append,Array.size_append,List.size_toArray,List.size_toArray,hol,hnl];omega
        ·by_cases hlt:i<List.length (α:=e'.D) l
         ·rw [List.getElem?_append_left hlt] at hi
          obtain ⟨ys,hyr,hyc⟩:=hrow i z hi
          refine ⟨ys,hyr.mono hx'.cell,fun j u hj=>?_⟩
          have h3:=hold i z hi ys hyr.len j (List.getElem?_eq_some_iff.1 hj).1
          rw [Array.getElem?_append_left (by rw [Array.size_append,List.size_toArray,hol];omega),Array.getElem?_append_left (by rw [List.size_toArray,hol];omega),List.getElem?_toArray,List.getElem?_take,if_pos h3]
          simpa using hyc j u hj
         ·rw [List.getElem?_append_right (by omega)] at hi
          obtain ⟨ys,hyr,hyc⟩:=hrows.2 _ z hi
          refine ⟨ys,hyr.mono hx'.cell,fun j u hj=>?_⟩
          have h3:=hyc j u hj
          have h4:=(List.getElem?_eq_some_iff.1 h3).1
          have h5:List.length (α:=e'.D) l*e'.sz≤i*e'.sz:=Nat.mul_le_mul_right _ (by omega)
          rw [Nat.sub_mul] at h3 h4
          rw [Array.getElem?_append_left (by rw [Array.size_append,List.size_toArray,List.size_toArray,hol];omega),Array.getElem?_append_right (by rw [List.size_toArray,hol];omega),List.size_toArray,hol,List.getElem?_toArray,← h3]
          congr 1
          omega
       ·refine ⟨by rw [hver'];exact Nat.le_refl _,fun _=>⟨e',_,false,hcon', .inr ⟨w.heap.size,false,ncap,_,ET,_,by simp [G.DA,AK],EW w.drew _,?_,by rw [List.length_append,hlx];exact hge,hgm,by rw [List.length_append,hlx]⟩⟩⟩
        have hol:(cur.toList.take (List.length (α:=e'.D) l*e'.sz)).length=List.length (α:=e'.D) l*e'.sz:=by rw [List.length_take,hctl];omega
        rw [Array.size_append,Array.size_append,List.size_toArray,List.size_toArray,size_zeroCells,hzc,hol,hnl,← Nat.add_mul,← Nat.add_mul]
        congr 1
        omega
    ·cases hy
   ·exact AO
  ·exact AO
 ·exact AO
theorem UY {id lo n:Nat} {av:AV} (h:partOf σ av=some (id,lo,n)):∃ e l,σ.c id=some (.arr e l false)∧((∃ ver,av = .slw id ver∧σ.v id=ver∧lo=0∧n=List.length (α:=e.D) l)∨∃ ver,av = .slm id ver lo n∧σ.v id=ver):=by
 unfold partOf at h
 split at h
 ·split at h
  ·rename_i hv
   split at h
   ·rename_i e l hc
    cases h
    exact ⟨e,l,hc, .inl ⟨_,rfl,hv,rfl,rfl⟩⟩
   ·cases h
  ·cases h
 ·split at h
  ·rename_i hv
   split at h
   ·rename_i e l hc
    cases h
    exact ⟨e,l,hc, .inr ⟨_,rfl,hv⟩⟩
   ·cases h
  ·cases h
 ·cases h
theorem gn (hI:Inv B ok0 w0 g σ a w) {id lo n:Nat} {e:Ty} {l:List e.D} {av:AV} {v:Value} (h:partOf σ av=some (id,lo,n)) (hc:σ.c id=some (.arr e l false)) (hr:RepA (okG B ok0 g w) g σ w av v):
  ∃ p cap,v = .slice p n cap∧lo+n≤List.length (α:=e.D) l∧n≤cap∧cap≤maxLen∧(0<n→∃ b,g.bx id=some (b,false)∧p=some ⟨b,lo*e.sz,none⟩):=by
 obtain ⟨e1,l1,hc1,h⟩:=UY h
 rw [hc] at hc1
 cases hc1
 rcases h with ⟨ver,rfl,hv,rfl,rfl⟩ | ⟨ver,rfl,hv⟩
 ·obtain ⟨e2,l2,fz2,hc2,hsw⟩:=hr.2 hv
  rw [hc] at hc2
  cases hc2
  obtain ⟨p,cap,hp,hcap,hmx2,hA,_⟩:=hsw.form
  refine ⟨p,cap,hp,by omega,hcap,hmx2,fun h0=>?_⟩
  obtain ⟨b,f,hb,hA'⟩:=hA h0
  have hf:f=false:=(hI.Hn hb hc).1
  subst hf
  exact ⟨b,hb,by rw [Nat.zero_mul];exact hA'⟩
 ·obtain ⟨e2,l2,fz2,A,cap,hc2,hlo,hcap,hmx2,hA,hAs,hp⟩:=hr.2 hv
  rw [hc] at hc2
  cases hc2
  refine ⟨A,cap,hp,hlo,hcap,hmx2,fun h0=>?_⟩
  obtain ⟨b,f,hb,hA'⟩:=hA (by omega)
  have hf:f=false:=(hI.Hn hb hc).1
  subst hf
  exact ⟨b,hb,hA'⟩
theorem UZ {id:Nat} {c:Con} (hc:σ.c id=some c):σ.Cn id c = σ:=by
 have:EK σ.c id (some c) = σ.c:=by
  funext i
  rw [AK]
  split
  ·rename_i h;rw [h,hc]
  ·rfl
 unfold St.Cn
 rw [this]
theorem gp {α:Type} (l:List α) (lo:Nat):GA l lo []=l:=by unfold GA;simp
theorem VR {α:Type} {l:List α} {lo:Nat} {y:List α} (h:lo+y.length≤l.length):(GA l lo y).length=l.length:=by
 unfold GA
 rw [List.length_append,List.length_append,List.length_take,List.length_drop]
 omega
theorem vT (hI:Inv B ok0 w0 g σ a w) {id b lo:Nat} {e:Ty} {l y:List e.D} {ys:List Value} (hc:σ.c id=some (.arr e l false)) (hb:g.bx id=some (b,false)) (hy:FV (okG B ok0 g w) w e y ys) (h1:∀ u∈ys,u.oneCell'=true)
  (hfit:lo+List.length (α:=e.D) y≤List.length (α:=e.D) l):
  ∃ w',(storeCells ⟨b,lo*e.sz,none⟩ ys).run P w = .ok () w'∧Inv B ok0 w0 g (σ.Cn id (.arr e (GA l lo y) false)) a w':=by
 obtain ⟨_,cur,TT,ym,hh,hmk,hsz,hmx,hrow⟩:=hI.Hn hb hc
 have hcl:cur.toList.length=cur.size:=Array.length_toList
 have hyl:ys.length=List.length (α:=e.D) y*e.sz:=hy.1
 have hle:lo*e.sz+ys.length≤cur.size:=by
  rw [hyl,← Nat.add_mul]
  exact Nat.le_trans (Nat.mul_le_mul_right _ hfit) hsz
 have hst:=Iz P b (lo*e.sz) TT ym ys 0 cur w hh hmk.un (by omega) h1
 simp only [Nat.add_zero] at hst
 unfold CS at hst
 refine ⟨_,hst,hI.Rr hc hb (fun e' l' fz he=>by cases he;exact ⟨_,false,rfl,VR hfit⟩) (fun cur' T' _ hh'=>by
  rw [hh] at hh'
  cases hh'
  rw [List.size_toArray,List.length_append,List.length_append,List.length_take,List.length_drop,hcl]
  omega) fun ok σ' hx'=>?_⟩
 refine ⟨rfl,_,TT,ym,setRow_heap w b _ _ _ _ hh,hmk.eq (by rw [List.size_toArray,List.length_append,List.length_append,List.length_take,List.length_drop,hcl];omega),?_,by rw [VR hfit];exact hmx,fun k x hk=>?_⟩
 ·rw [VR hfit,List.size_toArray,List.length_append,List.length_append,List.length_take,List.length_drop,hcl]
  omega
 have hin:∀ (i:Nat) (zs:List Value),zs.length=e.sz→∀ j v,zs[j]? = some v→j<e.sz:=fun i zs hz j v hj=>by
  have:=(List.getElem?_eq_some_iff.1 hj).1
  omega
 by_cases hk1:k<lo
 ·have hk':l[k]? = some x:=by
   unfold GA at hk
   rw [List.getElem?_append_left (by rw [List.length_take];omega),List.getElem?_take,if_pos hk1] at hk
   exact hk
  obtain ⟨zs,hzr,hzc⟩:=hrow k x hk'
  refine ⟨zs,hzr.mono hx'.cell,fun j v hj=>?_⟩
  have hj1:=hin k zs hzr.len j v hj
  have hj2:(k+1)*e.sz≤lo*e.sz:=Nat.mul_le_mul_right _ hk1
  rw [Nat.add_mul] at hj2
  rw [List.getElem?_toArray,List.append_assoc,List.getElem?_append_left (by rw [List.length_take,hcl];omega),List.getElem?_take,if_pos (by omega)]
  simpa using hzc j v hj
 ·by_cases hk2:k<lo+List.length (α:=e.D) y
  ·have hk':y[k-lo]? = some x:=by
    unfold GA at hk
    rw [List.getElem?_append_right (by rw [List.length_take];omega),List.length_take,List.getElem?_append_left (by omega),show min lo (List.length (α:=e.D) l)=lo by omega] at hk
    exact hk
   obtain ⟨zs,hzr,hzc⟩:=hy.2 _ x hk'
   refine ⟨zs,hzr.mono hx'.cell,fun j v hj=>?_⟩
   have h3:=hzc j v hj
   have h4:=(List.getElem?_eq_some_iff.1 h3).1
   have h5:lo*e.sz≤k*e.sz:=Nat.mul_le_mul_right _ (by omega)
   rw [Nat.sub_mul] at h3 h4
   rw [List.getElem?_toArray,List.append_assoc,List.getElem?_append_right (by rw [List.length_take];omega),List.length_take,hcl,List.getElem?_append_left (by omega),← h3]
   congr 1
   omega
  ·have hk':l[k]? = some x:=by
    unfold GA at hk
    rw [List.getElem?_append_right (by rw [List.length_take];omega),List.length_take,List.getElem?_append_right (by omega),List.getElem?_drop] at hk
    rw [← hk]
    congr 1
    omega
   obtain ⟨zs,hzr,hzc⟩:=hrow k x hk'
   refine ⟨zs,hzr.mono hx'.cell,fun j v hj=>?_⟩
   have h5:(lo+List.length (α:=e.D) y)*e.sz≤k*e.sz:=Nat.mul_le_mul_right _ (by omega)
   rw [Nat.add_mul,← hyl] at h5
   rw [List.getElem?_toArray,List.getElem?_append_right (by rw [List.length_append,List.length_take,hcl];omega),List.getElem?_drop,List.length_append,List.length_take,hcl]
   rw [show lo*e.sz+ys.length+(k*e.sz+j-(min (lo*e.sz) cur.size+ys.length))=k*e.sz+j by omega]
   simpa using hzc j v hj
theorem vU {ok:Nat→Nat→Prop} {e:Ty} (n:Nat):FV ok w e (List.replicate n e.zero) ((List.replicate n e.zcells).flatten):=
 ⟨by rw [JP,List.length_replicate],fun i x hi=>VS n i x hi⟩
theorem Zjh {e:Ty} (n:Nat):∀ u∈(List.replicate n e.zcells).flatten,u.oneCell'=true:=fun u hu=>by
 obtain ⟨z,hz,hu⟩:=List.mem_flatten.1 hu
 rw [List.eq_of_mem_replicate hz] at hu
 exact (Eg (fun _ _=>True) (default:World) e).one u hu
theorem Zkh (hE:EnvOk P E) (hI:Inv B ok0 w0 g σ a w) (hd:∀ d,o.dst=some d→d<a.tmps.size) {T:TypeId} {c:Call} (ho:o.op = .call c) (hcc:c.callee = .builtin .clear) {s:Operand}
  (ha:c.args.toList=[s]) (hat:c.argTypes.toList=[T]):CL P B ok0 w0 (LL E T o σ (opd σ s)) o a w:=by
 unfold LL
 split
 ·rename_i id lo n e hp hT
  split
  ·rename_i e' l hc
   split
   ·rename_i hee
    subst hee
    obtain ⟨p,cap,hv,hln,_,_,hpb⟩:=gn hI hp hc (DE hI s)
    obtain ⟨ET,ie,hu,hie,hsz,hz,_⟩:=(hE.ty T _ hT).und
    have ha':c.args = #[s]:=by rw [← Array.toArray_toList (xs:=c.args),ha]
    have hat':c.argTypes = #[T]:=by rw [← Array.toArray_toList (xs:=c.argTypes),hat]
    have hrun:∀ w',(Builtin.clear_ #[T] o.type #[a.eval s]).run P w = .ok (.tuple #[]) w'→(execOp a.eval o).run P w = .ok (.value (.tuple #[])) w':=by
     intro w' hv'
     unfold execOp;rw [ho]
     simp [resolve,hcc,ha',hat',invoke,builtin,hv']
    refine Iy hd fun _=>?_
    cases n with
    | zero=>
     refine ⟨g,w,_,hrun w ?_,?_,[],rfl,trivial⟩
     ·rw [hv]
      cases p <;> simp [Builtin.clear_,run_underlying hu]
     ·rw [show List.replicate 0 e'.zero=[] from rfl,gp,UZ hc]
      exact hI
    | succ m=>
     obtain ⟨b,hb,rfl⟩:=hpb (Nat.succ_pos m)
     obtain ⟨w',h1,h2⟩:=vT (P:=P) hI hc hb (vU (m+1)) (Zjh (m+1)) (lo:=lo) (by rw [List.length_replicate];exact hln)
     refine ⟨g,w',_,hrun w' ?_,h2,[],rfl,trivial⟩
     rw [hv]
     have hzv:∀ w,(zeroValue ET).run P w = .ok (valOf e' e'.zcells) w:=fun w=>by
      unfold zeroValue
      simp [typeInfo,hie,hz]
     have hzc:(valOf e' e'.zcells).cells=e'.zcells.toArray:=FO (Eg (fun _ _=>True) w e')
     have hzr:(Builtin.zeroCells e'.zcells.toArray (m+1)).toList=(List.replicate (m+1) e'.zcells).flatten:=by
      have hl:=(Eg (fun _ _=>True) (default:World) e').len
      have h:=lO (e:=e') (n:=m+1)
      unfold madeCells at h
      unfold Builtin.zeroCells
      rw [List.size_toArray,hl]
      rw [List.size_toArray,hl] at h
      rw [h]
     simp [Builtin.clear_,run_underlying hu,hzv,hzc,hzr,h1]
   ·exact AO
  ·exact AO
 ·exact AO
theorem Za1 (hE:EnvOk P E) (hI:Inv B ok0 w0 g σ a w) (hd:∀ d,o.dst=some d→d<a.tmps.size) {T U:TypeId} {c:Call} (ho:o.op = .call c) (hcc:c.callee = .builtin .copy) {s x:Operand}
  (ha:c.args.toList=[s,x]) (hat:c.argTypes.toList=[T,U]):CL P B ok0 w0 (NW E T U o σ (opd σ s) (opd σ x)) o a w:=by
 unfold NW
 split
 ·rename_i id lo n e hp hT
  split
  ·rename_i e' l y0 hc hy
   split
   ·rename_i y hyy
    obtain ⟨ee,hyy⟩:=CR hyy
    have ee2:e=e':=by cases ee;rfl
    subst ee2
    have hyy':y0=y:=hyy
    subst hyy'
    unfold Oj at hy
    split at hy
    ·rename_i eU hU
     obtain ⟨p,cap,hv,hln,_,_,hpb⟩:=gn hI hp hc (DE hI s)
     obtain ⟨ET,ie,hu,hie,hsz,hz,_⟩:=(hE.ty T _ hT).und
     obtain ⟨px,nx,capx,news,hvx,hlx,_,_,hrows,h1,hcell⟩:=Mi hI hy (DE hI x)
     have ha':c.args = #[s,x]:=by rw [← Array.toArray_toList (xs:=c.args),ha]
     have hat':c.argTypes = #[T,U]:=by rw [← Array.toArray_toList (xs:=c.argTypes),hat]
     have hrun:∀ v w',(Builtin.copy_ #[T,U] o.type #[a.eval s,a.eval x]).run P w = .ok v w'→(execOp a.eval o).run P w = .ok (.value v) w':=by
      intro v w' hv'
      unfold execOp;rw [ho]
      simp [resolve,hcc,ha',hat',invoke,builtin,hv']
     have hsz':(sizeOf ET).run P w = .ok e.sz w:=by
      unfold sizeOf
      simp [typeInfo,hie,hsz]
     have hk:Nat.min nx n=List.length (α:=e.D) (List.take n y0):=by
      rw [List.length_take,hlx];exact Nat.min_comm _ _
     have hrow':FV (okG B ok0 g w) w e (List.take n y0) (news.take (Nat.min nx n*e.sz)):=by
      refine ⟨?_,fun i z hi=>?_⟩
      ·rw [← hk,List.length_take,hrows.1,hlx]
       exact Nat.min_eq_left (Nat.mul_le_mul_right _ (Nat.min_le_left _ _))
      ·rw [List.getElem?_take] at hi
       split at hi
       ·rename_i hin
        obtain ⟨ys,hyr,hyc⟩:=hrows.2 i z hi
        refine ⟨ys,hyr,fun j u hj=>?_⟩
        have hj1:j<e.sz:=by have:=(List.getElem?_eq_some_iff.1 hj).1;rw [hyr.len] at this;exact this
        have hi1:i<nx:=by have:=(List.getElem?_eq_some_iff.1 hi).1;omega
        have h5:(i+1)*e.sz≤Nat.min nx n*e.sz:=Nat.mul_le_mul_right _ (Nat.le_min.2 ⟨hi1,hin⟩)
        rw [Nat.add_mul] at h5
        rw [List.getElem?_take,if_pos (by omega)]
        exact hyc j u hj
       ·cases hi
     have hk2:(news.take (Nat.min nx n*e.sz)).length=Nat.min nx n*e.sz:=by rw [hrow'.1,hk]
     have hfirst:(Builtin.firstCells e.sz (Nat.min nx n) (a.eval x)).run P w = .ok (news.take (Nat.min nx n*e.sz)).toArray w:=by
      rw [hvx]
      rcases hcell with h0 | ⟨A,hA,hsA,hc'⟩
      ·subst h0
       have h00:Nat.min 0 n=0:=Nat.zero_min n
       rw [h00,Nat.zero_mul,List.take_zero]
       cases px with
       | none=>simp [Builtin.firstCells]
       | some A=>exact run_firstCells_some (P:=P) w e.sz 0 A 0 capx [] (by simp) (fun j u hj=>by simp at hj)
      ·subst hA
       refine run_firstCells_some (P:=P) w e.sz _ A nx capx _ hk2 fun j u hj=>?_
       rw [Fv A hsA]
       rw [List.getElem?_take] at hj
       split at hj
       ·exact hc' j u hj
       ·cases hj
     have hlen:(Builtin.lenOf (a.eval x)).run P w = .ok nx w:=by rw [hvx];rfl
     refine Iy hd fun _=>?_
     rcases Nat.eq_zero_or_pos n with h0 | h0
     ·subst h0
      refine ⟨g,w,_,hrun (goInt 0) w ?_,?_,[_],rfl,rfl,fun t ht=>by cases ht⟩
      ·have h00:Nat.min nx 0=0:=Nat.min_zero nx
       rw [h00,Nat.zero_mul,List.take_zero] at hfirst
       rw [hv]
       cases p <;> simp [Builtin.copy_,run_underlying hu,hlen,h00,hsz',hfirst,storeCells]
      ·rw [List.take_zero,gp,UZ hc]
       exact hI
     ·obtain ⟨b,hb,rfl⟩:=hpb h0
      obtain ⟨w',h2,h3⟩:=vT (P:=P) hI hc hb hrow' (fun u hu=>h1 u (List.mem_of_mem_take hu)) (lo:=lo) (by rw [List.length_take];omega)
      refine ⟨g,w',_,hrun (goInt (Nat.min nx n)) w' ?_,h3,[_],rfl,by rw [hk];rfl,fun t ht=>by cases ht⟩
      rw [hv]
      simp [Builtin.copy_,run_underlying hu,hlen,hsz',hfirst,h2]
    ·cases hy
   ·exact AO
  ·exact AO
 ·exact AO
theorem gq (hI:Inv B ok0 w0 g σ a w) (hd:∀ d,o.dst=some d→d<a.tmps.size) {x:Operand} (ho:o.op = .move x∨o.op = .assign x):
  CL P B ok0 w0 (KR E o σ (Kr x) (opd σ x)) o a w:=by
 have hold:=Zd1 (P:=P) (E:=E) hI hd ho
 unfold KR
 split
 ·rename_i d hx hdst
  rw [hx] at hold
  cases hbx:(E.bx d && Kr x) with
  | false=>exact hold
  | true=>
   dsimp only [cond_true]
   split
   ·rename_i e hT
    have rx:=DE hI x
    rw [hx] at rx
    have hv:a.eval x = .slice none 0 0:=rx
    refine Iy hd fun _=>⟨_,w, .slice none 0 0,?_,hI.vX d e,by simp [St.BW,AK],fun _=>⟨e,[],false,by simp [St.BW,AK], .inl ⟨by simp [AK],rfl,rfl⟩⟩⟩
    have hr:(execOp a.eval o).run P w = .ok (.value (a.eval x)) w:=by rcases ho with ho | ho <;> · unfold execOp;rw [ho];rfl
    rw [hr,hv]
   ·exact AO
 ·exact hold
end
end Go.AM
end

section
/- Calls of functions whose contracts are known; appends and strings' bytes, put together. -/
namespace Go.AM
open Go.RowKit (Below)
set_option linter.unusedSectionVars false
variable [Lay]
def KD (ok:Nat→Nat→Prop) (w:World):AV→Value→Prop
 | .dat t x _,v=>∃ cs,RepD ok w t x cs∧v=valOf t cs
 | .ept t x off,v=>IY ok w t x off v
 | .fn f caps,v=>∃ vs:List Value,v = .func (.func f) #[] vs.toArray∧Dz (fun (d:Dat) u=>IY ok w d.t d.x 0 u) caps vs
 | _,_=>False
def cnt:List Tag→Nat
 | []=>0
 | t :: r=>if t.id=0 then cnt r else cnt r+1
def Kd (ρ:Nat→Option (Nat×Nat)) (w:World) (cs:List Value):Nat→List Tag→Prop
 | _,[]=>True
 | j,t :: r=>if t.id=0 then cs[t.off]? = some (.slice none 0 0)∧Kd ρ w cs j r else Ub ⟨fun _=>none,ρ⟩ w t.sz j cs[t.off]?∧Kd ρ w cs (j+1) r
def okR (ok0:Nat→Nat→Prop) (w w':World) (rws:List (Option (Nat×Nat))) (ρ:Nat→Option (Nat×Nat)) (b o:Nat):Prop:=
 ok0 b o∨((w.heap.size≤b∨∃ u,some (b,u)∈rws)∧b<w'.heap.size∧∀ j u,ρ j=some (b,u)→o<u)
def Ju (ok:Nat→Nat→Prop) (ρ:Nat→Option (Nat×Nat)) (w:World):Nat→List Dat→List Value→Prop
 | _,[],[]=>True
 | j,d :: ds,v :: vs=>(∃ cs,RepD ok w d.t d.x cs∧v=valOf d.t cs∧Kd ρ w cs j d.g)∧Ju ok ρ w (j+cnt d.g) ds vs
 | _,_,_=>False
def Qs (w:World) (cs:List Value):List Tag→List (Option (Nat×Nat))→List (Option (Nat×Nat))→Prop
 | [],rs,r=>rs=r
 | τ :: h,rs,r=>∃ q r1,rs=q :: r1∧Qs w cs h r1 r∧match q with
  | none=>cs[τ.off]? = some (.slice none 0 0)
  | some (b,u)=>∃ n cap cur T,cs[τ.off]? = some (.slice (some ⟨b,0,none⟩) n cap)∧u=n*PN τ.sz∧w.heap[b]? = some (.cells cur T (0,0))∧cur.size=cap*PN τ.sz∧n≤cap∧cap≤maxLen∧(τ.sz=0→T=Lay.byt)
def Ix (ok:Nat→Nat→Prop) (w:World) (e:Ty) (l:List e.D) (cur:Array Value):Prop:=
 ∀ (i:Nat) (x:e.D),l[i]? = some x→∃ ys,RepD ok w e x ys∧∀ j u,ys[j]? = some u→cur[i*e.sz+j]? = some u
def Xi (ok:Nat→Nat→Prop) (w:World) (a:AV) (v:Value) (bs r:List Nat) (rs s:List (Option (Nat×Nat))):Prop:=
 match a with
 | .iov t x g=>∃ b,bs=b :: r∧v = .pointer (some ⟨b,0,none⟩)∧∃ cs T,w.heap[b]? = some (.cells cs.toArray T (0,0))∧RepD ok w t x cs∧SX b t T cs∧Qs w cs g rs s
 | .ioa e l=>∃ b cap cur T,bs=b :: r∧rs=s∧v = .slice (some ⟨b,0,none⟩) (List.length (α:=e.D) l) cap∧w.heap[b]? = some (.cells cur T (0,0))∧cur.size=cap*e.sz∧
   List.length (α:=e.D) l≤cap∧cap≤maxLen∧0<List.length (α:=e.D) l∧Ix ok w e l cur
 | a=>KD ok w a v∧bs=r∧rs=s
def Ig (ok:Nat→Nat→Prop) (w:World):List AV→List Value→List Nat→List (Option (Nat×Nat))→Prop
 | [],[],bs,rs=>bs=[]∧rs=[]
 | a :: l,v :: vs,bs,rs=>∃ r s,Xi ok w a v bs r rs s∧Ig ok w l vs r s
 | _,_,_,_=>False
def Zth1 (ok:Nat→Nat→Prop) (ρ:Nat→Option (Nat×Nat)) (w:World) (j:Nat) (c:Con) (b:Nat):Prop:=
 match c with
 | .var t x g=>∃ cs T,w.heap[b]? = some (.cells cs.toArray T (0,0))∧RepD ok w t x cs∧SX b t T cs∧Kd ρ w cs j g
 | .arr e l f=>f=false∧∃ cur T y,w.heap[b]? = some (.cells cur T y)∧Mk e y cur.size∧List.length (α:=e.D) l*e.sz≤cur.size∧List.length (α:=e.D) l≤maxLen∧Ix ok w e l cur
 | .val _=>False
def SS:Con→Nat
 | .var _ _ g=>cnt g
 | _=>0
def Mb (ok:Nat→Nat→Prop) (ρ:Nat→Option (Nat×Nat)) (w:World):Nat→List Con→List Nat→Prop
 | _,[],[]=>True
 | j,d :: ds,b :: bs=>Zth1 ok ρ w j d b∧Mb ok ρ w (j+SS d) ds bs
 | _,_,_=>False
def Jv:List Con→Nat
 | []=>0
 | x :: r=>SS x+Jv r
def JN:List Dat→Nat
 | []=>0
 | x :: r=>cnt x.g+JN r
def Zc8:AV→Nat
 | .dat _ _ g=>cnt g
 | .tup ds=>JN ds
 | _=>0
def TZ (ok:Nat→Nat→Prop) (ρ:Nat→Option (Nat×Nat)) (w w':World) (ios:List Con) (bs:List Nat) (rws:List (Option (Nat×Nat))) (v:Value):AV→Prop
 | .dat t x g=>∃ cs,RepD ok w' t x cs∧v=valOf t cs∧Kd ρ w' cs 0 g
 | .tup ds=>∃ vs:List Value,v = .tuple vs.toArray∧Ju ok ρ w' 0 ds vs
 | .bxv e l=>bs=[]∧rws=[]∧Gg e=true∧∃ b cap cur T,w.heap.size≤b∧b<w'.heap.size∧w'.heap[b]? = some (.cells cur T (0,0))∧cur.size=cap*e.sz∧
   List.length (α:=e.D) l≤cap∧cap≤maxLen∧v = .slice (some ⟨b,0,none⟩) (List.length (α:=e.D) l) cap∧Ix (fun _ _=>False) w' e l cur
 | .slp k n=>∃ b cap e l f A,bs[k]? = some b∧ios[k]? = some (.arr e l f)∧n≤List.length (α:=e.D) l∧n≤cap∧cap≤maxLen∧(n≠0→A=some ⟨b,0,none⟩)∧(∀ a:Addr,A=some a→a.spot=none)∧v = .slice A n cap
 | _=>False
def KE (ok0:Nat→Nat→Prop) (w w':World) (av:AV) (ios:List Con) (bs:List Nat) (rws:List (Option (Nat×Nat))) (v:Value):Prop:=
 ∃ ρ:Nat→Option (Nat×Nat),(∀ j b u,ρ j=some (b,u)→(w.heap.size≤b∨∃ u0,some (b,u0)∈rws∧u0≤u)∧b<w'.heap.size)∧(∀ j k b u u',ρ j=some (b,u)→ρ k=some (b,u')→j=k)∧
  Mb (okR ok0 w w' rws ρ) ρ w' (Zc8 av) ios bs∧TZ (okR ok0 w w' rws ρ) ρ w w' ios bs rws v av
def Xj (w:World) (bs:List Nat) (rws:List (Option (Nat×Nat))):Prop:=
 (∀ (i j b u u':Nat),rws[i]? = some (some (b,u))→rws[j]? = some (some (b,u'))→i=j)∧∀ b u,some (b,u)∈rws→b<w.heap.size∧b∉bs
def Ah (P:Program) (f:FuncId) (s:Spec):Prop:=
 ∀ l r x,s l=some r→r.m=some x→∀ (ok0:Nat→Nat→Prop) (w:World) (vs:List Value) (bs:List Nat) (rws:List (Option (Nat×Nat))),(∃ z,Lay.ok z w∧(∀ b∈bs,z≤b)∧∀ b u,some (b,u)∈rws→z≤b)→
  (∀ b o,ok0 b o→b<w.heap.size∧b∉bs∧∀ u,some (b,u)∈rws→o<u)→bs.Nodup→(∀ b∈bs,b<w.heap.size)→Xj w bs rws→Ig ok0 w l vs bs rws→
  Calls P f vs.toArray w fun e w'=>∃ v,e = .returned v∧BelowX ⟨w.heap.size,bs,rws⟩ w w'∧KE ok0 w w' (r.enc x) (r.io x) bs rws v
def Enters (P:Program) (f:FuncId):Prop:=∀ args w,(callFunc f args).run P w = .ok (.enter f args) w
def Em (P:Program) (E:Env):Prop:=∀ f s,E.call f=some s→Ah P f s∧Enters P f∧(E.lend f=true→Words s)
section
variable {P : Program} {B : Bd} {ok0 : Nat → Nat → Prop} {w0 w w' : World} {g g' : G} {σ σ1 : St} {a : Act} {o : Oper} {E : Env}
theorem vQ (hE:EnvOk P E) (hI:Inv B ok0 w0 g σ a w) (hd:∀ d,o.dst=some d→d<a.tmps.size) {T U:Nat} {c:Call} (ho:o.op = .call c) (hc:c.callee = .builtin .append) {s x:Operand}
  (ha:c.args.toList=[s,x]) (hat:c.argTypes.toList=[T,U]):CL P B ok0 w0 (FY E T U o σ (opd σ s) (opd σ x)) o a w:=by
 unfold FY
 split
 ·rename_i d e hdst hT
  obtain ⟨ET,ie,hu,hie,_⟩:=(hE.ty T _ hT).und
  split
  ·rename_i l hl
   split
   ·rename_i id hid
    split
    ·rename_i hU
     have huU:P.underlying U=some .string:=(hE.ty U _ hU).und
     split
     ·rename_i l2 hl2
      split
      ·rename_i y gs hx
       have hev:=Lc hI hx
       have hsz:(Ax y).length=y.size:=by unfold Ax;rw [List.length_map,Array.length_toList];rfl
       have hcore:=UX (news:=(Ax y).map (Value.int .u8)) (l':=Ax y) (m:=y.size) hE hI hd ho hc ha hat hT hu hie (.inr huU) hl hid
        ⟨by simp [Ty.sz],fun i x hi=>⟨[.int .u8 x],rfl,fun j u hj=>by
         have hj0:j=0:=by have:=(List.getElem?_eq_some_iff.1 hj).1;simp at this;exact this
         subst hj0
         simp at hj
         subst hj
         simp only [Ty.sz,Nat.mul_one,Nat.add_zero,List.getElem?_map,hi]
         rfl⟩⟩ hsz (fun w=>by rw [hev];rfl) (fun w' _=>by
          rw [hev]
          simp only [Builtin.firstCells,Sem.run_pure,Ax,List.map_map]
          rw [show y.extract 0 y.size=y from ByteArray.extract_zero_size]
          congr 1
          apply Array.ext'
          rw [Array.toList_map]
          rfl) (fun u hu=>by
          obtain ⟨n,_,rfl⟩:=List.mem_map.1 hu
          rfl)
       exact hcore
      ·exact AO
     ·exact AO
    ·rename_i e2 hU
     split
     ·rename_i y hy
      obtain ⟨EU,_,huU,_⟩:=(hE.ty U _ hU).und
      obtain ⟨p,n,cap,cs,hv,hln,_,_,hrow,h1,hcell⟩:=Mi hI hy (DE hI x)
      refine UX (news:=cs) (l':=y) (m:=y.length) hE hI hd ho hc ha hat hT hu hie (.inl ⟨EU,huU⟩) hl hid hrow rfl (fun w=>by rw [hv,hln];rfl) (fun w' hw'=>?_) h1
      rw [hv,hln]
      rcases hcell with h0 | ⟨A,hA,hs,hc'⟩
      ·subst h0
       have:cs=[]:=List.eq_nil_of_length_eq_zero (by rw [hrow.1,hln,Nat.zero_mul])
       subst this
       cases p with
       | none=>simp [Builtin.firstCells]
       | some A=>exact run_firstCells_some (P:=P) w' e.sz 0 A 0 cap [] (by simp) (fun j u hj=>by simp at hj)
      ·subst hA
       refine run_firstCells_some (P:=P) w' e.sz n A n cap cs (by rw [hrow.1,hln]) fun j u hj=>?_
       rw [Fv A hs]
       have:=hc' j u hj
       simp only [World.cell?,hw'] at this ⊢
       exact this
     ·exact AO
    ·exact AO
   ·exact AO
  ·exact AO
 ·exact AO
theorem Zhh (hE:EnvOk P E) (hI:Inv B ok0 w0 g σ a w) (hd:∀ d,o.dst=some d→d<a.tmps.size) {src dst:Nat} {x:Operand} (ho:o.op = .convert src dst x) (hs:E.ty src=some .str) (hds:E.ty dst=some (.sl (.int .u8))):
  CL P B ok0 w0 (Gh E src dst o σ (opd σ x)) o a w:=by
 have u1:P.underlying src=some .string:=(hE.ty _ _ hs).und
 obtain ⟨ET,ie,u2,_,_,_,hk,_⟩:=(hE.ty _ _ hds).und
 unfold Gh
 rw [hs,hds]
 dsimp only
 split
 ·rename_i s gs hx
  have hr:=Lib.run_convert_string_bytes (P:=P) w src dst ET s u1 u2 (hk .u8 rfl)
  have hrun:(execOp a.eval o).run P w = .ok (.value (.slice (some ⟨w.heap.size,0,none⟩) s.size (grownCap w s.size 0 ET))) (Lib.bytesWorld w ET s):=by
   unfold execOp;rw [ho]
   simp only [Lc hI hx,Sem.run_bind,hr,Result.andThen_ok,Sem.run_pure]
  have hb:Below w.heap.size w (Lib.bytesWorld w ET s):=⟨rfl,rfl,rfl,by rw [Lib.bytesWorld_size];omega,fun k hk=>Lib.bytesWorld_at_old w ET s k hk⟩
  have hBw:B.n≤w.heap.size:=by have:=hI.below.size;have:=hI.hB;omega
  have hlen:(Ax s).length=s.size:=by unfold Ax;rw [List.length_map,Array.length_toList];rfl
  split
  ·rename_i d hdst hbx
   refine Iy hd fun hc=>?_
   have hroom:s.size*1≤140737488355328:=of_decide_eq_true hc
   have hsz:(Lib.bytesCells w ET s).size=grownCap w s.size 0 ET:=by
    have h1:=grownCap_ge w s.size 0 ET
    have h2:s.data.size=s.size:=rfl
    simp only [Lib.bytesCells,Array.size_append,Array.size_map,Array.size_replicate,h2]
    omega
   have hmx:grownCap w s.size 0 ET≤maxLen:=grownCap_le_maxLen w s.size 0 ET (by unfold maxLen;omega)
   have hge:=grownCap_ge w s.size 0 ET
   refine ⟨g.DA d w.heap.size false,_,_,hrun,hI.BW (Nat.lt_of_lt_of_le (hd _ hdst) hI.tm) hb (Nat.le_refl _) (by rw [Lib.bytesWorld_size];omega) (fun ok g' σ' hx=>?_),?_⟩
   ·refine ⟨rfl,_,ET,_,Lib.bytesWorld_at_new w ET s, .inr ⟨rfl,Nat.le_refl _⟩,?_,?_,fun i n hi=>?_⟩
    ·rw [hlen,hsz];simpa [Ty.sz] using hge
    ·rw [hlen];omega
    ·have hin:i<s.size:=by rw [← hlen];exact (List.getElem?_eq_some_iff.1 hi).1
     refine ⟨[.int .u8 n],rfl,fun j u hj=>?_⟩
     have hj0:j=0:=by have:=(List.getElem?_eq_some_iff.1 hj).1;simp at this;exact this
     subst hj0
     simp at hj
     subst hj
     have hcell:=Lib.bytesWorld_cell w ET s i hin
     simp only [World.cell?,Lib.bytesWorld_at_new] at hcell
     simp only [Ty.sz,Nat.mul_one,Nat.add_zero]
     unfold Ax at hi
     rw [List.getElem?_map] at hi
     cases hq:s.data.toList[i]? with
     | none=>rw [hq] at hi;cases hi
     | some b=>
      rw [hq] at hi
      simp only [Option.map_some,Option.some.injEq] at hi
      subst hi
      rw [List.getD_eq_getElem?_getD,hq] at hcell
      simpa using hcell
   ·exact ⟨by simp [St.BW,AK],fun _=>⟨.int .u8,Ax s,false,by simp [St.BW,AK], .inr ⟨w.heap.size,false,grownCap w s.size 0 ET,_,ET,_,by simp [G.DA,AK],Lib.bytesWorld_at_new w ET s,by rw [hsz];simp [Ty.sz],by rw [hlen];exact hge,hmx,by rw [hlen]⟩⟩⟩
  ·refine Iy hd fun hc=>?_
   have hroom:s.size*1≤140737488355328:=of_decide_eq_true hc
   refine ⟨g,_,_,hrun,hI.grown hb,[_],⟨_,_,_,rfl,hlen,grownCap_ge w s.size 0 ET,grownCap_le_maxLen w s.size 0 ET (by unfold maxLen;omega),fun i n hi=>?_⟩,rfl,fun t ht=>by cases ht⟩
   have hin:i<s.size:=by rw [← hlen];exact (List.getElem?_eq_some_iff.1 hi).1
   refine ⟨_,rfl,rfl,[.int .u8 n],rfl,fun j u hj=>?_⟩
   have hj0:j=0:=by have:=(List.getElem?_eq_some_iff.1 hj).1;simp at this;exact this
   subst hj0
   simp at hj
   subst hj
   simp only [Ty.sz,Nat.mul_one,Nat.add_zero,Nat.zero_add]
   refine ⟨.inr ⟨.inl hBw,by rw [Lib.bytesWorld_size];omega,fun id he=>by have:=(hI.bb id _ _ he).2;omega,fun id u he=>by have:=(hI.rb id _ _ he).2.1;omega⟩,?_⟩
   rw [Lib.bytesWorld_cell w ET s i hin]
   unfold Ax at hi
   rw [List.getElem?_map] at hi
   cases hq:s.data.toList[i]? with
   | none=>rw [hq] at hi;cases hi
   | some b=>
    rw [hq] at hi
    simp only [Option.map_some,Option.some.injEq] at hi
    subst hi
    rw [List.getD_eq_getElem?_getD,hq]
    rfl
 ·exact AO
theorem KD.mono {ok ok':Nat→Nat→Prop} (hm:∀ b o,ok b o→ok' b o) {av:AV} {v:Value} (h:KD ok w av v):KD ok' w av v:=by
 cases av with
 | dat t x g=>obtain ⟨cs,h1,h2⟩:=h;exact ⟨cs,h1.mono (fun b o hk=>⟨hm b o hk,rfl⟩),h2⟩
 | ept t x off=>exact IY.mono hm h
 | fn f caps=>obtain ⟨vs,h1,h2⟩:=h;exact ⟨vs,h1,h2.imp fun _ _ hp=>hp.mono hm⟩
 | _=>exact h
def NJ (ok:Nat→Nat→Prop) (g:G) (σ:St) (w:World) (a:AV) (v:Value) (ids r:List Nat):Prop:=
 match a with
 | .iov t x h=>∃ id b f gs,ids=id :: r∧v = .pointer (some ⟨b,0,none⟩)∧g.bx id=some (b,f)∧σ.c id=some (.var t x gs)∧h=TJ σ gs
 | .ioa e l=>∃ id fz,ids=id :: r∧σ.c id=some (.arr e l fz)∧isB e=false∧MV g w id e.sz (List.length (α:=e.D) l) v
 | a=>KD ok w a v∧ids=r
def Ih (ok:Nat→Nat→Prop) (g:G) (σ:St) (w:World):List AV→List Value→List Nat→Prop
 | [],[],ids=>ids=[]
 | a :: l,v :: vs,ids=>∃ r,NJ ok g σ w a v ids r∧Ih ok g σ w l vs r
 | _,_,_=>False
structure Still (B:Bd) (ok0:Nat→Nat→Prop) (g g':G) (σ σ':St) (w:World):Prop where
 ext:Ext (okG B ok0 g w) (okG B ok0 g' w) g g' σ σ' w w
 v:σ'.v = σ.v
 t:σ'.t = σ.t
 r:σ'.r = σ.r
 var:∀ id t x gs,σ.c id=some (.var t x gs)→σ'.c id=some (.var t x gs)
 arr:∀ id e l f,σ.c id=some (.arr e l f)→∃ f',σ'.c id=some (.arr e l f')
theorem Still.refl (B:Bd) (ok0:Nat→Nat→Prop) (g:G) (σ:St) (w:World):Still B ok0 g g σ σ w where
  ext := { cell := fun _ _ hk => ⟨hk, rfl⟩
           box:=fun _ _ hv=>⟨hv,fun he=>⟨he,fun _ f hh=>⟨f,hh⟩,fun _ l fz hc=>⟨l,fz,hc,rfl⟩,fun hn=>hn,fun _ _ cur _ y _ _ hh=>⟨cur,y,hh,rfl⟩⟩⟩
           row:=fun id ver _ hv=>⟨hv,fun he=>⟨he,fun b u hh=>⟨hh,rfl⟩⟩⟩ }
  v:=rfl
  t:=rfl
  r:=rfl
  var:=fun _ _ _ _ h=>h
  arr:=fun _ _ _ f h=>⟨f,h⟩
theorem Still.bx {g g':G} {σ σ':St} (h:Still B ok0 g g' σ σ' w) {id b:Nat} {f:Bool} (hb:g.bx id=some (b,f)):∃ f',g'.bx id=some (b,f'):=
 ((h.ext.box id (σ.v id) (Nat.le_refl _)).2 (by rw [h.v])).2.1 b f hb
theorem NJ.still {g g':G} {σ σ':St} (h:Still B ok0 g g' σ σ' w) {a:AV} {v:Value} {ids r:List Nat} (ha:NJ (okG B ok0 g w) g σ w a v ids r):NJ (okG B ok0 g' w) g' σ' w a v ids r:=by
 unfold NJ at *
 split at ha
 ·obtain ⟨id,b,f,gs,h1,h2,h3,h4,h6⟩:=ha
  obtain ⟨f',h5⟩:=h.bx h3
  exact ⟨id,b,f',gs,h1,h2,h5,h.var _ _ _ _ h4,by rw [h6];unfold TJ;rw [h.r]⟩
 ·obtain ⟨id,fz,h1,h2,hnb,h3⟩:=ha
  obtain ⟨fz',h4⟩:=h.arr _ _ _ _ h2
  obtain ⟨_,k6,_,k8,k9⟩:=(h.ext.box id (σ.v id) (Nat.le_refl _)).2 (by rw [h.v])
  exact ⟨id,fz',h1,h4,hnb,h3.ext k6 k8 fun b f cur T y=>k9 b f cur T y ⟨_,_,_,h2⟩⟩
 ·exact ⟨ha.1.mono fun b o hk=>(h.ext.cell b o hk).1,ha.2⟩
theorem Ih.still {g g':G} {σ σ':St} (h:Still B ok0 g g' σ σ' w):∀ {l:List AV} {vs:List Value} {ids:List Nat},Ih (okG B ok0 g w) g σ w l vs ids→Ih (okG B ok0 g' w) g' σ' w l vs ids
 | [],[],_,ha=>ha
 | _ :: _,_ :: _,_,⟨r,h1,h2⟩=>⟨r,h1.still h,Ih.still h h2⟩
 | [],_ :: _,_,ha=>ha.elim
 | _ :: _,[],_,ha=>ha.elim
theorem Still.trans {g g1 g2:G} {σ σ1 σ2:St} (h:Still B ok0 g g1 σ σ1 w) (k:Still B ok0 g1 g2 σ1 σ2 w):Still B ok0 g g2 σ σ2 w where
  ext := { cell := fun b o hk => ⟨(k.ext.cell b o (h.ext.cell b o hk).1).1, rfl⟩
           box:=fun id ver hv=>by
             obtain ⟨a1,a2⟩:=h.ext.box id ver hv
             obtain ⟨b1,b2⟩:=k.ext.box id ver a1
             refine ⟨b1,fun he=>?_⟩
             obtain ⟨c1,c2,c3,c4,c5⟩:=b2 he
             obtain ⟨d1,d2,d3,d4,d5⟩:=a2 c1
             refine ⟨d1,fun b f hb=>?_,fun e l fz hc=>?_,fun hn=>c4 (d4 hn),fun b f cur T y _ _ hh=>⟨cur,y,hh,rfl⟩⟩
             · obtain ⟨f1,h1⟩:=d2 b f hb;exact c2 b f1 h1
             · obtain ⟨l1,z1,h1,h2⟩:=d3 e l fz hc
               obtain ⟨l2,z2,h3,h4⟩:=c3 e l1 z1 h1
               exact ⟨l2,z2,h3,h4.trans h2⟩
           row:=fun id ver h0 hv=>by
             obtain ⟨a1,a2⟩:=h.ext.row id ver h0 hv
             obtain ⟨b1,b2⟩:=k.ext.row id ver h0 a1
             refine ⟨b1,fun he=>?_⟩
             obtain ⟨c1,c2⟩:=b2 he
             obtain ⟨d1,d2⟩:=a2 c1
             exact ⟨d1,fun b u hb=>⟨(c2 b u (d2 b u hb).1).1,rfl⟩⟩ }
  v:=k.v.trans h.v
  t:=k.t.trans h.t
  r:=k.r.trans h.r
  var:=fun id t x gs hc=>k.var _ _ _ _ (h.var _ _ _ _ hc)
  arr:=fun id e l f hc=>by
    obtain ⟨f1,h1⟩:=h.arr _ _ _ _ hc
    exact k.arr _ _ _ _ h1
theorem Md {id:Nat} {e:Ty} {l:List e.D} {fz:Bool} (hc:σ.c id=some (.arr e l fz)) (hx:Ext (okG B ok0 g w) (okG B ok0 g' w) g g' σ (σ.Cn id (.arr e l true)) w w):
  Still B ok0 g g' σ (σ.Cn id (.arr e l true)) w:=
 ⟨hx,rfl,rfl,rfl,fun id' t x gs hc'=>by
  simp only [St.Cn,AK]
  by_cases hi:id'=id
  ·subst hi;rw [hc] at hc';cases hc'
  ·rw [if_neg hi];exact hc',fun id' e' l' f' hc'=>by
  simp only [St.Cn,AK]
  by_cases hi:id'=id
  ·subst hi;rw [hc] at hc';cases hc';exact ⟨true,by rw [if_pos rfl]⟩
  ·rw [if_neg hi];exact ⟨f',hc'⟩⟩
theorem Zd8 (hI:Inv B ok0 w0 g σ a w) {T:Nat} {m:Bool} {av av':AV} {v:Value} (h:LM E T m σ av=some (av',σ1)) (hr:RepA (okG B ok0 g w) g σ w av v):
  ∃ g',Inv B ok0 w0 g' σ1 a w∧Still B ok0 g g' σ σ1 w∧∀ r,NJ (okG B ok0 g' w) g' σ1 w av' v (Zd4 m av++r) r:=by
 unfold LM at h
 split at h
 ·cases h
  obtain ⟨cs,h1,h2,_⟩:=hr
  exact ⟨g,hI,Still.refl ..,fun r=>⟨⟨cs,h1,h2⟩,rfl⟩⟩
 ·split at h
  ·cases h
   have hv:v = .slice none 0 0:=hr
   subst hv
   exact ⟨g,hI,Still.refl ..,fun r=>⟨⟨[.slice none 0 0],⟨none,0,0,rfl,rfl,Nat.le_refl _,Nat.zero_le _,fun i x hi=>by simp at hi⟩,rfl⟩,rfl⟩⟩
  ·cases h
 ·rename_i id ver
  cases m with
  | true=>
   simp only [cond_true] at h
   split at h
   ·rename_i hvp
    split at h
    ·rename_i e l hc
     cases hnb:isB e with
     | true=>rw [hnb] at h;cases h
     | false=>
     rw [hnb] at h
     cases h
     obtain ⟨e2,l2,fz2,hc2,hsw⟩:=hr.2 hvp
     rw [hc] at hc2;cases hc2
     exact ⟨g,hI,Still.refl ..,fun r=>⟨id,false,rfl,hc,hnb,hsw⟩⟩
    ·cases h
   ·cases h
  | false=>
   simp only [cond_false] at h
   split at h
   ·rename_i hvp
    have hid:id<pid0:=Nat.le_of_ble_eq_true hvp.2
    split at h
    ·rename_i e l fz hc
     cases h
     obtain ⟨e2,l2,fz2,hc2,hsw⟩:=hr.2 hvp.1
     rw [hc] at hc2;cases hc2
     rcases hsw with ⟨hn,hl0,hv⟩ | ⟨b,f,cap,cur,T,ym,hb,hh,hcs,hle,hmx,hv⟩
     ·obtain ⟨hI',hx⟩:=hI.SV hc hn
      have hl00:l=[]:=List.eq_nil_of_length_eq_zero hl0
      subst hl00
      exact ⟨g,hI',Md hc hx,fun r=>⟨⟨[v],by rw [hv];exact ⟨none,0,0,rfl,rfl,Nat.le_refl _,Nat.zero_le _,fun i x hi=>by simp at hi⟩,rfl⟩,rfl⟩⟩
     ·obtain ⟨g',hb',hI',hx,hok⟩:=hI.freeze hc hb hid
      obtain ⟨_,cur',TT,y',hh',_,hsz,hmx',hrow⟩:=hI'.Hn (c:= .arr e l true) hb' (by simp [St.Cn,AK])
      refine ⟨g',hI',Md hc hx,fun r=>⟨⟨[v],?_,rfl⟩,rfl⟩⟩
      rw [hv]
      refine ⟨_,_,_,rfl,rfl,hle,hmx,fun i x hi=>?_⟩
      obtain ⟨ys,hy,hyc⟩:=hrow i x hi
      refine ⟨_,rfl,rfl,ys,hy,fun j u hj=>⟨hok _,?_⟩⟩
      simp only [World.cell?,hh',Nat.zero_add]
      exact hyc j u hj
    ·cases h
   ·cases h
 ·rename_i id ver lo n
  split at h
  ·rename_i hvp
   have hid:id<pid0:=Nat.le_of_ble_eq_true hvp.2
   split at h
   ·rename_i e l fz hc
    cases h
    obtain ⟨e2,l2,fz2,A,cap,hc2,hlo,hcap,hmx2,hA,hAs,hp⟩:=hr.2 hvp.1
    rw [hc] at hc2;cases hc2
    cases hbx:g.bx id with
    | none=>
     obtain ⟨hI',hx⟩:=hI.SV hc hbx
     have hn0:n=0:=by
      by_cases h0:n=0
      ·exact h0
      ·obtain ⟨b,f,hb,_⟩:=hA h0;rw [hbx] at hb;cases hb
     subst hn0
     exact ⟨g,hI',Md hc hx,fun r=>⟨⟨[v],by rw [hp];exact ⟨_,_,_,rfl,by simp,hcap,hmx2,fun i x hi=>by simp at hi⟩,rfl⟩,rfl⟩⟩
    | some q=>
     obtain ⟨b,f⟩:=q
     obtain ⟨g',hb',hI',hx,hok⟩:=hI.freeze hc hbx hid
     obtain ⟨_,cur',TT,y',hh',_,hsz,hmx',hrow⟩:=hI'.Hn (c:= .arr e l true) hb' (by simp [St.Cn,AK])
     refine ⟨g',hI',Md hc hx,fun r=>⟨⟨[v],?_,rfl⟩,rfl⟩⟩
     rw [hp]
     refine ⟨_,_,_,rfl,by rw [List.length_take,List.length_drop];omega,hcap,hmx2,fun i x hi=>?_⟩
     obtain ⟨hin,hi'⟩:=JQ hi
     obtain ⟨b2,f2,hb2,hA2⟩:=hA (by omega)
     rw [hbx] at hb2;cases hb2
     obtain ⟨ys,hy,hyc⟩:=hrow _ x hi'
     refine ⟨_,hA2,rfl,ys,hy,fun j u hj=>⟨hok _,?_⟩⟩
     simp only [World.cell?,hh']
     rw [show lo*e.sz+(i*e.sz+j)=(lo+i)*e.sz+j by rw [Nat.add_mul];omega]
     exact hyc j u hj
   ·cases h
  ·cases h
 ·cases h
  exact ⟨g,hI,Still.refl ..,fun r=>⟨hr,rfl⟩⟩
 ·cases h
  exact ⟨g,hI,Still.refl ..,fun r=>⟨hr,rfl⟩⟩
 ·rename_i id ver
  split at h
  ·rename_i hv
   split at h
   ·rename_i t x gs hc
    cases h
    obtain ⟨b,f,hb,hp⟩:=hr.2 hv
    exact ⟨g,hI,Still.refl ..,fun r=>⟨id,b,f,gs,rfl,hp,hb,hc,rfl⟩⟩
   ·cases h
  ·cases h
 ·cases h
theorem lH:∀ {xs:List Operand} {σ σ1:St} {g:G} {ds:List Dat},Inv B ok0 w0 g σ a w→KP xs σ = some (ds,σ1)→
  ∃ g',Inv B ok0 w0 g' σ1 a w∧Dz (fun (d:Dat) u=>IY (okG B ok0 g' w) w d.t d.x 0 u) ds (xs.map a.eval)∧∀ b o,okG B ok0 g w b o→okG B ok0 g' w b o
 | [],σ,σ1,g,ds,hI,h=>by cases h;exact ⟨g,hI,trivial,fun _ _ hk=>hk⟩
 | x :: xs,σ,σ1,g,ds,hI,h=>by
  unfold KP at h
  split at h
  ·rename_i d σ2 h1
   split at h
   ·rename_i ds2 σ3 h2
    cases h
    have hone:∃ g',Inv B ok0 w0 g' σ2 a w∧IY (okG B ok0 g' w) w d.t d.x 0 (a.eval x)∧∀ b o,okG B ok0 g w b o→okG B ok0 g' w b o:=by
     have rx:=DE hI x
     unfold DN at h1
     split at h1
     ·rename_i id ver hx
      rw [hx] at rx
      have frozen:∀ (g':G) (σ':St) (t:Ty) (y:t.D),Inv B ok0 w0 g' σ' a w→σ'.c id=some (.arr t [y] true)→∀ b,g'.bx id=some (b,true)→a.eval x = .pointer (some ⟨b,0,none⟩)→
        (∀ o,okG B ok0 g' w b o)→IY (okG B ok0 g' w) w t y 0 (a.eval x):=by
       intro g' σ' t y hI' hc' b hb hp hok
       obtain ⟨hf',cur,TT,ym,hh,hmk,hsz,hmx,hrow⟩:=hI'.Hn hb hc'
       obtain ⟨ys,hr,hcur⟩:=hrow 0 y rfl
       exact ⟨b,0,ys,hp,hr,fun j u hj=>⟨hok _,by simp only [World.cell?,hh];simpa using hcur j u hj⟩⟩
      split at h1
      ·rename_i hvp
       have hid:id<pid0:=Nat.le_of_ble_eq_true hvp.2
       obtain ⟨b,f,hb,hp⟩:=rx.2 hvp.1
       split at h1
       ·rename_i t y gs hc
        cases h1
        obtain ⟨g',hb2,hI',hx',hok⟩:=hI.capture hc hb hid
        exact ⟨g',hI',frozen g' _ t y hI' (by simp [St.Cn,AK]) b hb2 hp hok,fun b o hk=>(hx'.cell b o hk).1⟩
       ·rename_i t y hc
        cases h1
        have hcon:=hI.Hn hb hc
        have hf:f=true:=hcon.1
        subst hf
        have hbb:=hI.bb id b true hb
        have hBb:B.n≤b:=by rcases hbb.1 with h | h;exact h;exact absurd h.2.1 (by simp)
        refine ⟨g,hI,frozen g _ t y hI hc b hb hp fun o=> .inr ⟨.inl hBb,hbb.2,fun id' he=>?_,fun id' u he=>?_⟩,fun _ _ hk=>hk⟩
        ·have:=hI.bi _ _ _ _ _ he hb
         subst this
         rw [hb] at he
         cases he
        ·exact absurd hb ((hI.rb id' b u he).2.2 id true)
       ·cases h1
      ·cases h1
     ·rename_i t y hx
      rw [hx] at rx
      cases h1
      exact ⟨g,hI,rx,fun _ _ hk=>hk⟩
     ·cases h1
    obtain ⟨g2,hI2,hr2,hm2⟩:=hone
    obtain ⟨g3,hI3,hr3,hm3⟩:=lH hI2 h2
    exact ⟨g3,hI3,⟨hr2.mono hm3,hr3⟩,fun b o hk=>hm3 b o (hm2 b o hk)⟩
   ·cases h
  ·cases h
theorem ky (hI:Inv B ok0 w0 g σ a w) (hd:∀ d,o.dst=some d→d<a.tmps.size) {f:Nat} {p q:Array Operand} (ho:o.op = .makeFunc (.func f) p q) (hp:p.size=0) {ds:List Dat} (hq:KP q.toList σ = some (ds,σ1)):
  CL P B ok0 w0 (.go true (σ1.BO o.dst (.fn f ds))) o a w:=by
 intro next Q _ hn
 have hp':p = #[]:=Array.eq_empty_of_size_eq_zero hp
 obtain ⟨g',hI',hr,_⟩:=lH hI hq
 unfold Oper.wp
 have hrun:(execOp a.eval o).run P w = .ok (.value (.func (.func f) #[] (q.map a.eval))) w:=by
  unfold execOp;rw [ho,hp']
  simp [Instr.makeFunc]
 rw [hrun]
 refine hn g' _ _ (hI'.put ⟨(q.map a.eval).toList,by rw [Array.toArray_toList],by rw [Array.toList_map];exact hr⟩ hd) (Iu _ _ _)
theorem gd (hI:Inv B ok0 w0 g σ a w):∀ {xs:List Operand} {ps:List (Nat×Nat)},NX σ xs=some ps→Dz (fun (p:Nat×Nat) u=>PU g σ p.1 p.2 0 u) ps (xs.map a.eval)
 | [],ps,h=>by cases h;trivial
 | x :: xs,ps,h=>by
  unfold NX at h
  split at h
  ·rename_i id ver hx
   split at h
   ·rename_i hv
    split at h
    ·rename_i l hl
     cases h
     have rx:=DE hI x
     rw [hx] at rx
     exact ⟨rx,gd hI hl⟩
    ·cases h
   ·cases h
  ·cases h
theorem rG (hI:Inv B ok0 w0 g σ a w) (hd:∀ d,o.dst=some d→d<a.tmps.size) {f:Nat} {p q:Array Operand} (ho:o.op = .makeFunc (.func f) p q) (hp:p.size=0) {ps:List (Nat×Nat)} (hq:NX σ q.toList=some ps):
  CL P B ok0 w0 (put o σ (.clo f ps)) o a w:=by
 have hp':p = #[]:=Array.eq_empty_of_size_eq_zero hp
 refine Cw hI hd (v:= .func (.func f) #[] (q.map a.eval)) ?_ ⟨(q.map a.eval).toList,by rw [Array.toArray_toList],by rw [Array.toList_map];exact gd hI hq⟩
 unfold execOp;rw [ho,hp']
 simp [Instr.makeFunc]
theorem gh {σ σ':St} (h:σ'.t = σ.t):∀ (ms:List Bool) (xs:List Operand),Ej σ' ms xs=Ej σ ms xs
 | _,[]=>by unfold Ej;rfl
 | ms,x :: xs=>by
  have:opd σ' x=opd σ x:=by cases x <;> first | rfl | (unfold opd;rw [h])
  unfold Ej
  rw [this,gh h ms.tail xs]
theorem Zb:∀ {ms:List Bool} {ps:List (Operand×Nat)} {σ σ1:St} {g:G} {l:List AV},Inv B ok0 w0 g σ a w→Hp E ms ps σ = some (l,σ1)→
  ∃ g',Inv B ok0 w0 g' σ1 a w∧Still B ok0 g g' σ σ1 w∧Ih (okG B ok0 g' w) g' σ1 w l (ps.map fun p=>a.eval p.1) (Ej σ ms (ps.map (·.1)))
 | ms,[],σ,σ1,g,l,hI,h=>by
  simp only [Hp,Option.some.injEq,Prod.mk.injEq] at h
  obtain ⟨rfl,rfl⟩:=h
  exact ⟨g,hI,Still.refl ..,by unfold Ej;rfl⟩
 | ms,(x,T) :: ps,σ,σ1,g,l,hI,h=>by
  unfold Hp at h
  split at h
  ·rename_i av σ2 h1
   split at h
   ·rename_i l2 σ3 h2
    cases h
    obtain ⟨g2,hI2,hs2,hr2⟩:=Zd8 hI h1 (DE hI x)
    obtain ⟨g3,hI3,hs3,hr3⟩:=Zb hI2 h2
    rw [gh hs2.t] at hr3
    refine ⟨g3,hI3,hs2.trans hs3,_,?_,hr3⟩
    have:=(hr2 (Ej σ ms.tail (ps.map (·.1)))).still hs3
    exact this
   ·cases h
  ·cases h
def El (d j n:Nat) (σ:St):St:={ σ with r:=fun i=>if rid d j≤i∧i<rid d (j+n) then σ.r i+1 else σ.r i }
def Gm (d:Nat) (σ:St):Nat→List Tag→List Tag
 | _,[]=>[]
 | j,t :: r=>if t.id=0 then t :: Gm d σ j r else ⟨t.off,rid d j,σ.r (rid d j)+1,t.sz⟩ :: Gm d σ (j+1) r
def PA (d:Nat) (σ:St):Nat→List Dat→List Dat
 | _,[]=>[]
 | j,x :: r=>⟨x.t,x.x,Gm d σ j x.g⟩ :: PA d σ (j+cnt x.g) r
def VO (d:Nat) (σ:St) (j:Nat):Con→Con
 | .var t x g=> .var t x (Gm d σ j g)
 | c=>c
def IV (d:Nat) (σ:St):Nat→List Con→List Con
 | _,[]=>[]
 | j,c :: r=>VO d σ j c :: IV d σ (j+SS c) r
theorem Rl:∀ {l:List Nat},dis l=true→∀ i j x:Nat,l[i]? = some x→l[j]? = some x→x≠0→i=j
 | [],_,i,_,_,h,_,_=>by simp at h
 | y :: l,h,i,j,x,hi,hj,hx=>by
  unfold dis at h
  simp only [Bool.and_eq_true,Bool.or_eq_true,List.all_eq_true] at h
  have hn:∀ k:Nat,l[k]? = some x→y=x→False:=fun k hk hyx=>by
   rcases h.1 with h0 | h0
   ·have:=Nat.eq_of_beq_eq_true h0;omega
   ·have:=h0 x (List.mem_of_getElem? hk)
    subst hyx
    simp at this
  cases i with
  | zero=>
   cases j with
   | zero=>rfl
   | succ j=>simp at hi;exact (hn j (by simpa using hj) hi).elim
  | succ i=>
   cases j with
   | zero=>simp at hj;exact (hn i (by simpa using hi) hj).elim
   | succ j=>rw [Rl h.2 i j x (by simpa using hi) (by simpa using hj) hx]
theorem Oq (d j n:Nat):rid d (j+n)=rid d j+n:=by unfold rid;omega
theorem Me (d j:Nat) (σ:St):El d j 0 σ = σ:=by
 unfold El
 cases σ
 congr 1
 funext i
 rw [if_neg (by rw [Oq];omega)]
theorem rH (d j n:Nat) (σ:St):El d (j+1) n (σ.Dw (rid d j))=El d j (n+1) σ:=by
 unfold El St.Dw
 congr 1
 funext i
 simp only [AK,Oq]
 by_cases h1:i=rid d j
 ·subst h1
  rw [if_neg (by omega),if_pos rfl,if_pos (by omega)]
 ·rw [if_neg h1]
  by_cases h2:rid d j+1≤i∧i<rid d j+1+n
  ·rw [if_pos h2,if_pos (by omega)]
  ·rw [if_neg h2,if_neg (by omega)]
theorem NK (d:Nat) (σ:St) {j0:Nat}:∀ (g:List Tag) (j:Nat),j0<j→Gm d (σ.Dw (rid d j0)) j g=Gm d σ j g
 | [],_,_=>rfl
 | t :: r,j,h=>by
  unfold Gm
  split
  ·rw [NK d σ r j h]
  ·rw [NK d σ r (j+1) (by omega)]
   congr 2
   simp only [St.Dw,AK]
   rw [if_neg (by unfold rid;omega)]
theorem Ot (d:Nat):∀ (g:List Tag) (j:Nat) (σ:St),KW d g j σ = (Gm d σ j g,j+cnt g,El d j (cnt g) σ)
 | [],j,σ=>by simp [KW,Gm,cnt,Me]
 | t :: r,j,σ=>by
  unfold KW Gm cnt
  split
  ·rw [Ot d r j σ]
  ·rw [Ot d r (j+1) (σ.Dw (rid d j)),NK d σ r (j+1) (by omega),rH]
   simp only [Prod.mk.injEq,true_and,and_true]
   omega
theorem KF (d j m n:Nat) (σ:St):El d (j+m) n (El d j m σ)=El d j (m+n) σ:=by
 unfold El
 congr 1
 funext i
 simp only [Oq]
 by_cases h1:rid d j≤i∧i<rid d j+m
 ·rw [if_neg (by omega),if_pos h1,if_pos (by omega)]
 ·rw [if_neg h1]
  by_cases h2:rid d j+m≤i∧i<rid d j+(m+n)
  ·rw [if_pos (by omega),if_pos (by omega)]
  ·rw [if_neg (by omega),if_neg (by omega)]
theorem KV (d:Nat) (σ:St) {j0 n:Nat}:∀ (g:List Tag) (j:Nat),j0+n≤j→Gm d (El d j0 n σ) j g=Gm d σ j g
 | [],_,_=>rfl
 | t :: r,j,h=>by
  unfold Gm
  split
  ·rw [KV d σ r j h]
  ·rw [KV d σ r (j+1) (by omega)]
   congr 2
   simp only [El]
   rw [if_neg (by simp only [Oq];unfold rid;omega)]
theorem UU (d:Nat) (σ:St) {j0 n:Nat}:∀ (ds:List Dat) (j:Nat),j0+n≤j→PA d (El d j0 n σ) j ds=PA d σ j ds
 | [],_,_=>rfl
 | x :: r,j,h=>by
  unfold PA
  rw [KV d σ x.g j h,UU d σ r (j+cnt x.g) (by omega)]
theorem Zc (d:Nat):∀ (ds:List Dat) (j:Nat) (σ:St),PO d ds j σ = (PA d σ j ds,j+JN ds,El d j (JN ds) σ)
 | [],j,σ=>by simp [PO,PA,JN,Me]
 | x :: r,j,σ=>by
  unfold PO PA JN
  simp only [Ot]
  rw [Zc d r]
  simp only [KF,UU d σ r (j+cnt x.g) (Nat.le_refl _),Nat.add_assoc]
theorem MT (d:Nat) (σ:St) {j0 n:Nat}:∀ (ds:List Con) (j:Nat),j0+n≤j→IV d (El d j0 n σ) j ds=IV d σ j ds
 | [],_,_=>rfl
 | c :: r,j,h=>by
  unfold IV
  rw [MT d σ r _ (by omega)]
  cases c with
  | var t x g=>
   have:VO d (El d j0 n σ) j (.var t x g)=VO d σ j (.var t x g):=by
    show Con.var t x _=Con.var t x _
    rw [KV d σ g j h]
   rw [this]
  | _=>rfl
theorem Mz (d:Nat):∀ (ds:List Con) (j:Nat) (σ:St),Kh d ds j σ = (IV d σ j ds,j+Jv ds,El d j (Jv ds) σ)
 | [],j,σ=>by simp [Kh,IV,Jv,Me]
 | .var t x g :: r,j,σ=>by
  unfold Kh IV Jv
  simp only [Ot]
  rw [Mz d r]
  simp only [KF,SS,VO,MT d σ r (j+cnt g) (Nat.le_refl _),Nat.add_assoc]
 | .arr e l f :: r,j,σ=>by
  unfold Kh IV Jv
  rw [Mz d r]
  simp only [SS,VO,Nat.zero_add,Nat.add_zero]
 | .val v :: r,j,σ=>by
  unfold Kh IV Jv
  rw [Mz d r]
  simp only [SS,VO,Nat.zero_add,Nat.add_zero]
theorem MU:∀ (ids:List Nat) (ds:List Con) (σ:St),(EL ids ds σ).t = σ.t∧(EL ids ds σ).v = σ.v∧(EL ids ds σ).r = σ.r
 | [],_,_=>⟨rfl,rfl,rfl⟩
 | _ :: _,[],_=>⟨rfl,rfl,rfl⟩
 | _ :: ids,_ :: ds,σ=>MU ids ds _
theorem Mf {id:Nat}:∀ (ids:List Nat) (ds:List Con) (σ:St),id∉ids→(EL ids ds σ).c id = σ.c id
 | [],_,_,_=>rfl
 | _ :: _,[],_,_=>rfl
 | i :: ids,d :: ds,σ,h=>by
  unfold EL
  rw [Mf ids ds _ (fun hm=>h (List.mem_cons_of_mem _ hm))]
  simp only [St.Cn,AK]
  rw [if_neg (fun he=>h (by rw [he];exact List.mem_cons_self ..))]
def IoC (ok:Nat→Nat→Prop) (g:G) (r:Nat→Nat) (w:World) (c:Con) (b:Nat):Prop:=
 match c with
 | .var t x gs=>∃ cs T,w.heap[b]? = some (.cells cs.toArray T (0,0))∧RepD ok w t x cs∧SX b t T cs∧Fi g r w gs cs
 | .arr e l f=>f=false∧∃ cur T y,w.heap[b]? = some (.cells cur T y)∧Mk e y cur.size∧List.length (α:=e.D) l*e.sz≤cur.size∧List.length (α:=e.D) l≤maxLen∧Ix ok w e l cur
 | .val _=>False
def rI (ok:Nat→Nat→Prop) (g:G) (r:Nat→Nat) (w:World) (ds:List Con) (bs:List Nat):Prop:=Dz (IoC ok g r w) ds bs
theorem IoC.con {ok:Nat→Nat→Prop} {τ:St} {c:Con} {b:Nat} (h:IoC ok g τ.r w c b):ConOk ok g τ w b false c:=by
 cases c with
 | var t x gs=>exact ⟨rfl,h⟩
 | arr e l f=>obtain ⟨rfl,h⟩:=h;exact ⟨rfl,h⟩
 | val v=>exact h.elim
theorem Rm {ok:Nat→Nat→Prop} {r:Nat→Nat} {R:Nat→Nat→Prop} {id:Nat}:∀ {ids bs:List Nat} {ds:List Con} {σ:St},rI ok g r w ds bs→Dz R ids bs→ids.Nodup→id∈ids→
  ∃ (d:Con) (b:Nat),R id b∧(EL ids ds σ).c id=some d∧IoC ok g r w d b
 | [],_,_,_,_,_,_,h=>by cases h
 | _ :: _,[],_,_,_,h,_,_=>h.elim
 | _ :: _,_ :: _,[],_,h,_,_,_=>h.elim
 | i :: ids,b :: bs,d :: ds,σ,hi,ha,hn,hm=>by
  rcases List.mem_cons.1 hm with rfl | hm
  ·refine ⟨d,b,ha.1,?_,hi.1⟩
   unfold EL
   rw [Mf ids ds _ (List.nodup_cons.1 hn).1]
   simp [St.Cn,AK]
  ·exact Rm (ds:=ds) (σ:=σ.Cn i d) hi.2 ha.2 (List.nodup_cons.1 hn).2 hm
theorem PB {id:Nat} {d:Con}:∀ {ids:List Nat} {ds:List Con} {σ:St} {k:Nat},ids.Nodup→ids[k]? = some id→ds[k]? = some d→(EL ids ds σ).c id=some d
 | [],_,_,_,_,h,_=>by simp at h
 | _ :: _,[],_,_,_,_,h=>by simp at h
 | i :: ids,e :: ds,σ,0,hn,h1,h2=>by
  simp only [List.getElem?_cons_zero,Option.some.injEq] at h1 h2
  subst h1 h2
  unfold EL
  rw [Mf ids ds _ (List.nodup_cons.1 hn).1]
  simp [St.Cn,AK]
 | i :: ids,e :: ds,σ,k+1,hn,h1,h2=>by
  simp only [List.getElem?_cons_succ] at h1 h2
  exact PB (σ:=σ.Cn i e) (List.nodup_cons.1 hn).2 h1 h2
def Mg (σ:St) (ids:List Nat) (ds:List Con):Prop:=∀ (k id:Nat) (e:Ty) (l:List e.D) (fz:Bool),ids[k]? = some id→σ.c id=some (.arr e l fz)→∃ l',ds[k]? = some (.arr e l' false)∧List.length (α:=e.D) l'=List.length (α:=e.D) l
theorem Dz.right {α β:Type} {p:α→β→Prop}:∀ {l:List α} {m:List β} {b:β},Dz p l m→b∈m→∃ a,a∈l∧p a b
 | a :: _,_ :: _,_,h,hm=>by
  rcases List.mem_cons.1 hm with rfl | hm
  ·exact ⟨a,List.mem_cons_self ..,h.1⟩
  ·obtain ⟨x,h1,h2⟩:=Dz.right h.2 hm;exact ⟨x,List.mem_cons_of_mem _ h1,h2⟩
 | [],[],_,_,hm=>by cases hm
 | [],_ :: _,_,h,_=>h.elim
 | _ :: _,[],_,h,_=>h.elim
theorem Dz.left {α β:Type} {p:α→β→Prop}:∀ {l:List α} {m:List β} {a:α},Dz p l m→a∈l→∃ b,b∈m∧p a b
 | _ :: _,b :: _,_,h,hm=>by
  rcases List.mem_cons.1 hm with rfl | hm
  ·exact ⟨b,List.mem_cons_self ..,h.1⟩
  ·obtain ⟨x,h1,h2⟩:=Dz.left h.2 hm;exact ⟨x,List.mem_cons_of_mem _ h1,h2⟩
 | [],_,_,_,hm=>by cases hm
 | _ :: _,[],_,h,_=>h.elim
theorem Inv.Ztv (hI:Inv B ok0 w0 g σ a w) {b o id:Nat} (hk:okG B ok0 g w b o):g.bx id≠some (b,false):=by
 intro he
 rcases hk with hk | ⟨_,_,h3,_⟩
 ·obtain ⟨h1,h2⟩:=hI.h0 b o hk
  rcases (hI.bb id b false he).1 with h | h
  ·omega
  ·exact h2.1 h.1
 ·exact h3 id he
theorem Inv.rJ (hI:Inv B ok0 w0 g σ a w) {b o id u:Nat} (hk:okG B ok0 g w b o) (hr:g.rw id=some (b,u)):o<u:=by
 rcases hk with hk | ⟨_,_,_,h4⟩
 ·obtain ⟨h1,_,h3⟩:=hI.h0 b o hk
  rcases (hI.rb id b u hr).1 with h | ⟨u0,h,hle⟩
  ·omega
  ·have:=h3 u0 h;omega
 ·exact h4 id u hr
theorem Rn:∀ (hs:List Nat) (σ:St),(DQ hs σ).t = σ.t∧(DQ hs σ).v = σ.v∧(DQ hs σ).c = σ.c∧∀ i,(i∉hs→(DQ hs σ).r i = σ.r i)∧(i∈hs→σ.r i<(DQ hs σ).r i)
 | [],σ=>⟨rfl,rfl,rfl,fun i=>⟨fun _=>rfl,fun h=>by cases h⟩⟩
 | j :: hs,σ=>by
  obtain ⟨h1,h2,h3,h4⟩:=Rn hs (σ.Dw j)
  refine ⟨h1,h2,h3,fun i=>⟨fun hn=>?_,fun hm=>?_⟩⟩
  ·show (DQ hs (σ.Dw j)).r i=_
   rw [(h4 i).1 fun h=>hn (List.mem_cons_of_mem _ h)]
   simp only [St.Dw,AK]
   rw [if_neg fun e=>hn (by rw [e];exact List.mem_cons_self ..)]
  ·show _<(DQ hs (σ.Dw j)).r i
   by_cases hi:i∈hs
   ·have h5:=(h4 i).2 hi
    have h6:σ.r i≤(σ.Dw j).r i:=by
     simp only [St.Dw,AK]
     split
     ·rename_i e;rw [e];omega
     ·exact Nat.le_refl _
    omega
   ·rw [(h4 i).1 hi]
    rcases List.mem_cons.1 hm with rfl | hm
    ·simp [St.Dw,AK]
    ·exact absurd hm hi
def Handed (g:G) (w:World) (hs:List Nat) (rws:List (Option (Nat×Nat))):Prop:=Dz (fun i q=>∀ b u,q=some (b,u)→i≠0∧g.rw i=some (b,u)∧∃ cur T,w.heap[b]? = some (.cells cur T (0,0))) hs rws
theorem PC (hI:Inv B ok0 w0 g σ a w) {bs ids:List Nat} {rws:List (Option (Nat×Nat))} {hs:List Nat} (hb:BelowX ⟨w.heap.size,bs,rws⟩ w w') {ρ:Nat→Option (Nat×Nat)}
    (h1:∀ j b u,ρ j=some (b,u)→(w.heap.size≤b∨∃ u0,some (b,u0)∈rws∧u0≤u)∧b<w'.heap.size)
    (h2:∀ j k b u u',ρ j=some (b,u)→ρ k=some (b,u')→j=k) (hids:Dz (fun id b=>g.bx id=some (b,false)) ids bs) (hnd:ids.Nodup) (hrows:Handed g w hs rws) {ds:List Con} (hkl:Mg σ ids ds) (d N:Nat)
    (hio:∀ g':G,(∀ j,j<N→g'.rw (rid d j) = ρ j)→(∀ b o,okR (okG B ok0 g w) w w' rws ρ b o→okG B ok0 g' w' b o)→rI (okG B ok0 g' w') g' (El d 0 N (DQ hs σ)).r w' ds bs):
    ∃ g',Inv B ok0 w0 g' (EL ids ds (El d 0 N (DQ hs σ))) a w'∧(∀ b o,okR (okG B ok0 g w) w w' rws ρ b o→okG B ok0 g' w' b o)∧(∀ j,j<N→g'.rw (rid d j) = ρ j)∧g'.bx=g.bx:=by
  obtain ⟨st,sv,sr⟩:=MU ids ds (El d 0 N (DQ hs σ))
  obtain ⟨bt,bv,bc,br⟩:=Rn hs σ
  have hBw:B.n≤w.heap.size:=by have:=hI.below.size;have:=hI.hB;omega
  have hsz:=hb.size
  have hname:∀ b u,some (b,u)∈rws→∃ i,i∈hs∧g.rw i=some (b,u):=fun b u hm=>by
    obtain ⟨i,h3,h4⟩:=hrows.right hm
    exact ⟨i,h3,(h4 b u rfl).2.1⟩
  have hkeep:∀ k,k<w.heap.size→k∉bs→(∀ u,some (k,u)∉rws)→w'.heap[k]? = w.heap[k]?:=hb.block
  have hokbs:∀ b o,okG B ok0 g w b o→b∉bs:=fun b o hk hm=>by
    obtain ⟨id,_,he⟩:=hids.right hm
    exact hI.Ztv hk he
  have hin:∀ {id b f},g.bx id=some (b,f)→b∈bs→id∈ids:=fun he hm=>by
    obtain ⟨id',h3,h4⟩:=hids.right hm
    exact hI.bi _ _ _ _ _ he h4 ▸ h3
  have hbr:∀ {id b f},g.bx id=some (b,f)→∀ u,some (b,u)∉rws:=fun he u hm=>by
    obtain ⟨i,_,h4⟩:=hname _ u hm
    exact (hI.rb i _ u h4).2.2 _ _ he
  have hcell:∀ b o,okG B ok0 g w b o→w'.cell? ⟨b,o,none⟩=w.cell? ⟨b,o,none⟩:=fun b o hk=>by
    by_cases hm:∃ u,some (b,u)∈rws
    · obtain ⟨u,hm⟩:=hm
      obtain ⟨i,_,h4⟩:=hname b u hm
      have ho:=hI.rJ hk h4
      have hlt:=(hI.rb i b u h4).2.1
      obtain ⟨_,_,h5⟩:=hrows.right hm
      obtain ⟨_,_,cur,T,hob⟩:=h5 b u rfl
      obtain ⟨cur',z,k1,k2,k3⟩:=hb.rowc b u cur T (0,0) hm hlt hob
      simp only [World.cell?,hob,k1]
      simp only [Option.isSome_none,Bool.false_eq_true,if_false]
      exact k3 o ho
    · unfold World.cell?
      simp only [hkeep b (hI.okB hk) (hokbs b o hk) fun u hu=>hm ⟨u,hu⟩]
  let ρ':Nat→Option (Nat×Nat):=fun i=>if rid d 0≤i∧i<rid d (0+N) then ρ (i-rid d 0) else if i∈hs then none else g.rw i
  have hρ':∀ i b u,ρ' i=some (b,u)→(ρ (i-rid d 0)=some (b,u)∧rid d 0≤i∧i<rid d (0+N))∨(g.rw i=some (b,u)∧i∉hs):=by
    intro i b u hi
    simp only [ρ'] at hi
    split at hi
    · rename_i hq;exact .inl ⟨hi,hq⟩
    · split at hi
      · cases hi
      · rename_i hq;exact .inr ⟨hi,hq⟩
  have hnot:∀ i b u u0,g.rw i=some (b,u)→i∉hs→some (b,u0)∉rws:=fun i b u u0 hi hn hm=>by
    obtain ⟨i',h3,h4⟩:=hname b u0 hm
    exact hn (hI.ri _ _ _ _ _ hi h4 ▸ h3)
  have hokR:∀ b o,okR (okG B ok0 g w) w w' rws ρ b o→okG B ok0 ⟨g.bx,ρ'⟩ w' b o:=by
    intro b o hk
    rcases hk with hk | ⟨q1,q2,q3⟩
    · have hk0:=hk
      rcases hk with hk | ⟨q1,q2,q3,q4⟩
      · exact .inl hk
      · refine .inr ⟨q1,by omega,q3,fun id u he=>?_⟩
        rcases hρ' id b u he with ⟨h,_⟩ | h
        · rcases (h1 _ _ _ h).1 with h5 | ⟨u0,h5,h6⟩
          · omega
          · obtain ⟨i,_,h7⟩:=hname b u0 h5
            have:=hI.rJ hk0 h7
            omega
        · exact q4 id u h.1
    · refine .inr ⟨?_,q2,fun id he=>?_,fun id u he=>?_⟩
      · rcases q1 with q1 | ⟨u,q1⟩
        · exact .inl (by omega)
        · obtain ⟨i,_,h4⟩:=hname b u q1
          rcases (hI.rb i b u h4).1 with h5 | ⟨u0,h5,_⟩
          · exact .inl h5
          · exact .inr ⟨u0,h5⟩
      · rcases q1 with q1 | ⟨u,q1⟩
        · have:=(hI.bb id b false he).2;omega
        · exact hbr he u q1
      · rcases hρ' id b u he with ⟨h,_⟩ | ⟨h,hn⟩
        · exact q3 _ u h
        · rcases q1 with q1 | ⟨u0,q1⟩
          · have:=(hI.rb id b u h).2.1;omega
          · exact absurd q1 (hnot id b u u0 h hn)
  have hr3:∀ id,id≠0→(El d 0 N (DQ hs σ)).r id = σ.r id→ρ' id=g.rw id:=by
    intro id h0 he
    simp only [El] at he
    simp only [ρ']
    split at he
    · rename_i hq
      by_cases hm:id∈hs
      · have:=(br id).2 hm;omega
      · rw [(br id).1 hm] at he;omega
    · rename_i hq
      rw [if_neg hq]
      by_cases hm:id∈hs
      · have:=(br id).2 hm;omega
      · rw [if_neg hm]
  have hle3:∀ id,σ.r id≤(El d 0 N (DQ hs σ)).r id:=by
    intro id
    have:σ.r id≤(DQ hs σ).r id:=by
      by_cases hm:id∈hs
      · have:=(br id).2 hm;omega
      · rw [(br id).1 hm];exact Nat.le_refl _
    simp only [El]
    split <;> omega
  have hrk:∀ id b u,id≠0→(El d 0 N (DQ hs σ)).r id = σ.r id→g.rw id=some (b,u)→∀ u0,some (b,u0)∉rws:=by
    intro id b u h0 he hh u0
    refine hnot id b u u0 hh fun hm=>?_
    have:=(br id).2 hm
    simp only [El] at he
    split at he <;> omega
  have hnew:∀ j,j<N→ρ' (rid d j) = ρ j:=fun j hj=>by
    simp only [ρ']
    rw [if_pos (by simp only [Oq];unfold rid;omega)]
    congr 1
    unfold rid;omega
  have hst:=hio ⟨g.bx,ρ'⟩ hnew hokR
  have hx:Ext (okG B ok0 g w) (okG B ok0 ⟨g.bx,ρ'⟩ w') g ⟨g.bx,ρ'⟩ σ (EL ids ds (El d 0 N (DQ hs σ))) w w':=
    { cell := fun b o hk => ⟨hokR b o (.inl hk), hcell b o hk⟩
      box:=fun id ver hv=>by
        rw [sv]
        show ver≤(DQ hs σ).v id∧((DQ hs σ).v id=ver→_)
        rw [bv]
        refine ⟨hv,fun he=>⟨he,fun b f hh=>⟨f,hh⟩,fun e l fz hc=>?_,fun hn=>hn,fun b f cur T ym hc hbf hh=>?_⟩⟩
        · by_cases hm:id∈ids
          · obtain ⟨k,hk⟩:=List.mem_iff_getElem?.1 hm
            obtain ⟨l',h1,h2⟩:=hkl k id e l fz hk hc
            exact ⟨l',false,PB hnd hk h1,h2⟩
          · refine ⟨l,fz,?_,rfl⟩
            rw [Mf ids ds _ hm]
            show (DQ hs σ).c id=_
            rw [bc]
            exact hc
        · by_cases hm:b∈bs
          · obtain ⟨e,l,fz,hc⟩:=hc
            have hmi:=hin hbf hm
            obtain ⟨k,hk⟩:=List.mem_iff_getElem?.1 hmi
            obtain ⟨l',h1,_⟩:=hkl k id e l fz hk hc
            obtain ⟨q,b',hb',hc',hq⟩:=Rm (σ:=El d 0 N (DQ hs σ)) hst hids hnd hmi
            rw [PB hnd hk h1] at hc'
            cases hc'
            rw [hbf] at hb'
            cases hb'
            obtain ⟨_,cur2,T2,y2,q1,_⟩:=hq
            obtain ⟨cur3,z,q2,q3⟩:=hb.ioc b cur T _ hm (hI.bb id b _ hbf).2 hh
            rw [q1] at q2
            cases q2
            exact ⟨_,_,q1,q3⟩
          · exact ⟨cur,ym,(hkeep b (hI.bb id b f hbf).2 hm (hbr hbf)).trans hh,rfl⟩
      row:=fun id ver h0 hv=>by
        rw [sr]
        refine ⟨Nat.le_trans hv (hle3 id),fun he=>?_⟩
        have he2:(El d 0 N (DQ hs σ)).r id = σ.r id:=by have:=hle3 id;omega
        refine ⟨by omega,fun b u hh=>⟨?_,hkeep b (hI.rb id b u hh).2.1 (fun hm=>?_) (hrk id b u h0 he2 hh)⟩⟩
        · show ρ' id=_
          rw [hr3 id h0 he2]
          exact hh
        · obtain ⟨id',_,h4⟩:=hids.right hm
          exact (hI.rb id b u hh).2.2 id' false h4 }
  refine ⟨⟨g.bx,ρ'⟩,?_,hokR,hnew,rfl⟩
  exact {
      below:=hI.below.Zth hb hBw (fun x hm=>by
        obtain ⟨id,_,h4⟩:=hids.right hm
        rcases (hI.bb id x false h4).1 with h | h
        · exact ⟨.inl h,fun u hlt=>by omega⟩
        · exact ⟨.inr h.1,fun u _ hq=>(hI.hR x u hq).2.1 h.1⟩) (fun x u hm=>by
        obtain ⟨i,_,h4⟩:=hname x u hm
        rcases (hI.rb i x u h4).1 with h | ⟨u0,h,hle⟩
        · exact ⟨.inl h,fun u0 hlt=>by omega⟩
        · exact ⟨.inr ⟨u0,h⟩,fun u1 _ hq=>by rw [(hI.hR x u0 h).2.2 u1 hq];exact hle⟩)
      hB:=hI.hB,h0:=hI.h0,hR:=hI.hR,defers:=hI.defers,lay:=hI.lay,tm:=hI.tm,nm:=hI.nm
      bb:=fun id b f hbf=>⟨(hI.bb id b f hbf).1,Nat.lt_of_lt_of_le (hI.bb id b f hbf).2 hsz⟩
      bi:=hI.bi
      rb:=fun id b u hh=>by
        rcases hρ' id b u hh with ⟨h,_⟩ | ⟨h,_⟩
        · obtain ⟨q1,q2⟩:=h1 _ _ _ h
          rcases q1 with q1 | ⟨u0,q1,q3⟩
          · exact ⟨.inl (by omega),q2,fun id' f he=>by have:=(hI.bb id' b f he).2;omega⟩
          · obtain ⟨i,_,h4⟩:=hname b u0 q1
            refine ⟨?_,q2,fun id' f he=>hbr he u0 q1⟩
            rcases (hI.rb i b u0 h4).1 with h5 | ⟨u1,h5,h6⟩
            · exact .inl h5
            · exact .inr ⟨u1,h5,by omega⟩
        · obtain ⟨q1,q2,q3⟩:=hI.rb id b u h
          exact ⟨q1,by omega,q3⟩
      ri:=fun id id' b u u' e1 e2=>by
        have cross:∀ i j u u',ρ j=some (b,u)→g.rw i=some (b,u')→i∉hs→False:=fun i j u u' k1 k2 k3=>by
          rcases (h1 _ _ _ k1).1 with h5 | ⟨u0,h5,_⟩
          · have:=(hI.rb _ _ _ k2).2.1;omega
          · exact hnot i b u' u0 k2 k3 h5
        rcases hρ' id b u e1 with ⟨k1,k2⟩ | ⟨k1,k2⟩
        · rcases hρ' id' b u' e2 with ⟨k3,k4⟩ | ⟨k3,k4⟩
          · have:=h2 _ _ _ _ _ k1 k3;omega
          · exact (cross _ _ _ _ k1 k3 k4).elim
        · rcases hρ' id' b u' e2 with ⟨k3,k4⟩ | ⟨k3,k4⟩
          · exact (cross _ _ _ _ k3 k1 k2).elim
          · exact hI.ri _ _ _ _ _ k1 k3
      con:=fun id c hc=>by
        by_cases hm:id∈ids
        · obtain ⟨q,b,hb',hc',hq⟩:=Rm (σ:=El d 0 N (DQ hs σ)) hst hids hnd hm
          rw [hc'] at hc;cases hc
          exact .inr ⟨b,false,hb',IoC.con (τ:=EL ids ds (El d 0 N (DQ hs σ))) (by rw [sr];exact hq)⟩
        · rw [Mf ids ds _ hm] at hc
          have hc2:(DQ hs σ).c id=some c:=hc
          rw [bc] at hc2
          rcases hI.con id c hc2 with hn | ⟨b,f,hbf,hk⟩
          · exact .inl hn
          exact .inr ⟨b,f,hbf,hk.ext hx (hkeep b (hI.bb id b f hbf).2 (fun hmb=>hm (hin hbf hmb)) (hbr hbf))⟩
      slots:=fun t=>by
        rw [st]
        show RepA _ _ _ _ ((DQ hs σ).t t) _
        rw [bt]
        exact (hI.slots t).ext hx }
theorem Mh {ρ:Nat→Option (Nat×Nat)} {cs:List Value} {d N:Nat} (hrw:∀ j,j<N→g'.rw (rid d j) = ρ j):∀ (g:List Tag) (j:Nat),j+cnt g≤N→Kd ρ w' cs j g→
  Fi g' (El d 0 N σ).r w' (Gm d σ j g) cs
 | [],j,_,_=>fun t ht=>by cases ht
 | t :: r,j,hN,h=>by
  intro τ hτ
  unfold Kd at h
  unfold Gm at hτ
  unfold cnt at hN
  split at h
  ·rename_i h0
   rw [if_pos h0] at hτ hN
   rcases List.mem_cons.1 hτ with rfl | hτ
   ·exact ⟨fun _=>h.1,fun hn=>absurd h0 hn⟩
   ·exact Mh hrw r j hN h.2 τ hτ
  ·rename_i h0
   rw [if_neg h0] at hτ hN
   rcases List.mem_cons.1 hτ with rfl | hτ
   ·have hin:rid d 0≤rid d j∧rid d j<rid d (0+N):=by simp only [Oq];unfold rid;omega
    refine ⟨fun hz=>absurd hz (Qt d j),fun _=>⟨by simp only [El,if_pos hin];omega,fun _=>?_⟩⟩
    rcases h.1 with hv | ⟨b,n,cap,cur,T,hv,hr,rest⟩
    ·exact .inl hv
    ·exact .inr ⟨b,n,cap,cur,T,hv,by rw [hrw j (by omega)];exact hr,rest⟩
   ·exact Mh hrw r (j+1) (by omega) h.2 τ hτ
theorem Ix.mono {ok ok':Nat→Nat→Prop} (hm:∀ b o,ok b o→ok' b o) {e:Ty} {l:List e.D} {cur:Array Value} (h:Ix ok w e l cur):Ix ok' w e l cur:=fun i x hi=>by
 obtain ⟨ys,h1,h2⟩:=h i x hi
 exact ⟨ys,h1.mono fun b o hk=>⟨hm b o hk,rfl⟩,h2⟩
theorem rK {ok ok':Nat→Nat→Prop} {ρ:Nat→Option (Nat×Nat)} {d N:Nat} {τ:St} (hrw:∀ j,j<N→g'.rw (rid d j) = ρ j) (hok:∀ b o,ok b o→ok' b o):∀ (ds:List Con) (bs:List Nat) (j:Nat),j+Jv ds≤N→Mb ok ρ w' j ds bs→
  rI ok' g' (El d 0 N τ).r w' (IV d τ j ds) bs
 | [],[],_,_,_=>trivial
 | x :: ds,b :: bs,j,hN,⟨h,h5⟩=>by
  unfold Jv at hN
  refine ⟨?_,rK hrw hok ds bs _ (by omega) h5⟩
  cases x with
  | var t x g=>
   obtain ⟨cs,T,h1,h2,h3,h4⟩:=h
   exact ⟨cs,T,h1,h2.mono fun b o hk=>⟨hok b o hk,rfl⟩,h3,Mh hrw g j (by have:SS (Con.var t x g)=cnt g:=rfl;omega) h4⟩
  | arr e l f=>
   obtain ⟨hf,cur,T,y,h1,hy,h2,h3,h4⟩:=h
   exact ⟨hf,cur,T,y,h1,hy,h2,h3,h4.mono hok⟩
  | val v=>exact h.elim
 | [],_ :: _,_,_,h=>h.elim
 | _ :: _,[],_,_,h=>h.elim
theorem Zd {ok ok':Nat→Nat→Prop} {ρ:Nat→Option (Nat×Nat)} {r:Nat→Nat} (hok:∀ b o,ok b o→ok' b o):∀ (ds:List Con) (bs:List Nat) (j:Nat),Mb ok ρ w' j ds bs→rI ok' g' r w' (ds.map QO) bs
 | [],[],_,_=>trivial
 | x :: ds,b :: bs,j,⟨h,h5⟩=>by
  refine ⟨?_,Zd hok ds bs _ h5⟩
  cases x with
  | var t x g=>
   obtain ⟨cs,T,h1,h2,h3,_⟩:=h
   exact ⟨cs,T,h1,h2.mono fun b o hk=>⟨hok b o hk,rfl⟩,h3,fun _ h=>by cases h⟩
  | arr e l f=>
   obtain ⟨hf,cur,T,y,h1,hy,h2,h3,h4⟩:=h
   exact ⟨hf,cur,T,y,h1,hy,h2,h3,h4.mono hok⟩
  | val v=>exact h.elim
 | [],_ :: _,_,h=>h.elim
 | _ :: _,[],_,h=>h.elim
theorem gj {F:Nat→Con→Con} (hF:∀ j e l z,F j (.arr e l z) = .arr e l z):∀ {ds:List Con} {k:Nat} {e:Ty} {l:List e.D} {z:Bool} (G:Nat→List Con→List Con) (j:Nat),(∀ j c r,∃ j',G j (c :: r)=F j c :: G j' r)→ds[k]? = some (.arr e l z)→(G j ds)[k]? = some (.arr e l z)
 | [],_,_,_,_,_,_,_,h=>by simp at h
 | c :: ds,0,e,l,z,G,j,hG,h=>by
  simp only [List.getElem?_cons_zero,Option.some.injEq] at h
  subst h
  obtain ⟨j',e'⟩:=hG j (.arr e l z) ds
  rw [e',hF]
  rfl
 | c :: ds,k+1,e,l,z,G,j,hG,h=>by
  simp only [List.getElem?_cons_succ] at h
  obtain ⟨j',e'⟩:=hG j c ds
  rw [e',List.getElem?_cons_succ]
  exact gj hF G j' hG h
theorem Mg.IV {ids:List Nat} {ds:List Con} (h:Mg σ ids ds) (d:Nat) (τ:St) (j:Nat):Mg σ ids (IV d τ j ds):=fun k id e l fz h1 h2=>by
 obtain ⟨l',h3,h4⟩:=h k id e l fz h1 h2
 exact ⟨l',gj (F:=fun j c=>VO d τ j c) (fun _ _ _ _=>rfl) (Go.AM.IV d τ) j (fun j c r=>⟨j+SS c,rfl⟩) h3,h4⟩
theorem Mg.bare {ids:List Nat} {ds:List Con} (h:Mg σ ids ds):Mg σ ids (ds.map QO):=fun k id e l fz h1 h2=>by
 obtain ⟨l',h3,h4⟩:=h k id e l fz h1 h2
 exact ⟨l',by rw [List.getElem?_map,h3];rfl,h4⟩
theorem VP:∀ l m:List AV,DW l m=l++m
 | [],_=>rfl
 | a :: l,m=>by unfold DW;rw [VP l m];rfl
theorem Dz.append {α β:Type} {p:α→β→Prop}:∀ {l l':List α} {m m':List β},Dz p l m→Dz p l' m'→Dz p (l++l') (m++m')
 | [],_,[],_,_,h=>h
 | _ :: _,_,_ :: _,_,h,h'=>⟨h.1,Dz.append h.2 h'⟩
 | [],_,_ :: _,_,h,_=>h.elim
 | _ :: _,_,[],_,h,_=>h.elim
theorem JO:∀ {ids:List Nat},GD σ ids=true→ids.Nodup∧∀ id∈ids,(∃ t x gs,σ.c id=some (.var t x gs))∨∃ e l,σ.c id=some (.arr e l false)
 | [],_=>⟨List.nodup_nil,fun _ h=>by cases h⟩
 | id :: r,h=>by
  unfold GD at h
  rw [Bool.and_eq_true,Bool.and_eq_true] at h
  obtain ⟨⟨h1,h2⟩,h3⟩:=h
  obtain ⟨k1,k2⟩:=JO h3
  refine ⟨List.nodup_cons.2 ⟨fun hm=>?_,k1⟩,fun i hi=>?_⟩
  ·have:=List.all_eq_true.1 h2 id hm
   simp at this
  ·rcases List.mem_cons.1 hi with rfl | hi
   ·split at h1
    ·rename_i t x gs hc;exact .inl ⟨t,x,gs,hc⟩
    ·rename_i e l f hc
     cases f with
     | false=>exact .inr ⟨e,l,hc⟩
     | true=>cases h1
    ·cases h1
   ·exact k2 i hi
theorem Dz.app {α β:Type} {p:α→β→Prop} {l l':List α} {m m':List β} (h:Dz p l m) (h':Dz p l' m'):Dz p (l++l') (m++m'):=Dz.append h h'
theorem Dz.rL {α β:Type} {p:α→β→Prop}:∀ {l:List α} {m:List β} {i:Nat} {b:β},Dz p l m→m[i]? = some b→∃ a,l[i]? = some a∧p a b
 | a :: _,b :: _,0,_,h,hi=>by simp at hi;subst hi;exact ⟨a,rfl,h.1⟩
 | _ :: _,_ :: _,i+1,_,h,hi=>by
  simp only [List.getElem?_cons_succ] at hi ⊢
  exact Dz.rL h.2 hi
 | [],[],i,_,_,hi=>by simp at hi
 | [],_ :: _,_,_,h,_=>h.elim
 | _ :: _,[],_,_,h,_=>h.elim
theorem lI {gs:List Tag} {cs:List Value} (ht:Fi g σ.r w gs cs):∀ (h:List Tag),(∀ τ∈h,τ∈gs∧(τ.id=0∨σ.r τ.id = τ.ver))→∀ r,∃ rs0,Qs w cs h (rs0++r) r∧Handed g w (h.map (·.id)) rs0
 | [],_,r=>⟨[],rfl,trivial⟩
 | τ :: h,hm,r=>by
  obtain ⟨rs0,h1,h2⟩:=lI ht h (fun τ' hτ=>hm τ' (List.mem_cons_of_mem _ hτ)) r
  obtain ⟨hg,hv⟩:=hm τ (List.mem_cons_self ..)
  obtain ⟨k1,k2⟩:=ht τ hg
  by_cases h0:τ.id=0
  ·exact ⟨none :: rs0,⟨none,_,rfl,h1,k1 h0⟩,(fun b u he=>by cases he),h2⟩
  ·rcases hv with hv | hv
   ·exact absurd hv h0
   ·rcases (k2 h0).2 hv with k3 | ⟨b,n,cap,cur,T,k3,k4,k5,k6,k7,k8⟩
    ·exact ⟨none :: rs0,⟨none,_,rfl,h1,k3⟩,(fun b u he=>by cases he),h2⟩
    ·exact ⟨some (b,n*PN τ.sz) :: rs0,⟨_,_,rfl,h1,n,cap,cur,T,k3,rfl,k5,k6,k7,k8⟩,(fun b' u he=>by cases he;exact ⟨h0,k4,cur,T,k5⟩),h2⟩
theorem vR {gs:List Tag}:∀ τ∈TJ σ gs,τ∈gs∧(τ.id=0∨σ.r τ.id = τ.ver):=fun τ h=>by
 unfold TJ at h
 obtain ⟨h1,h2⟩:=List.mem_filter.1 h
 rw [Bool.or_eq_true] at h2
 exact ⟨h1,h2.imp Nat.eq_of_beq_eq_true Nat.eq_of_beq_eq_true⟩
theorem cX (hI:Inv B ok0 w0 g σ a w):∀ {l:List AV} {vs:List Value} {ids:List Nat},Ih (okG B ok0 g w) g σ w l vs ids→LN l=true→(∀ id∈ids,(∃ t x gs,σ.c id=some (.var t x gs))∨∃ e l,σ.c id=some (.arr e l false))→
  ∃ bs rws,Ig (okG B ok0 g w) w l vs bs rws∧Dz (fun id b=>g.bx id=some (b,false)) ids bs∧Handed g w (EZ l) rws
 | [],[],_,h,_,_=>by cases h;exact ⟨[],[],⟨rfl,rfl⟩,trivial,trivial⟩
 | av :: l,v :: vs,ids,⟨r,h1,h2⟩,hfu,hfr=>by
  by_cases hq:∃ t x h,av = .iov t x h
  ·obtain ⟨t,x,h,rfl⟩:=hq
   obtain ⟨id,b,f,gs,rfl,hv,hb,hc,hh⟩:=h1
   obtain ⟨bs,rws,k1,k2,k3⟩:=cX hI h2 hfu fun id' hm=>hfr id' (List.mem_cons_of_mem _ hm)
   obtain ⟨rfl,cs,T,hw,hr,hsf,htg⟩:=hI.Hn hb hc
   obtain ⟨rs0,q1,q2⟩:=lI htg h (by rw [hh];exact vR) rws
   exact ⟨b :: bs,rs0++rws,⟨bs,rws,⟨b,rfl,hv,cs,T,hw,hr,hsf,q1⟩,k1⟩,⟨hb,k2⟩,Dz.app q2 k3⟩
  by_cases hq2:∃ e l,av = .ioa e l
  ·obtain ⟨e,x,rfl⟩:=hq2
   obtain ⟨id,fz,rfl,hc,hnb,hsw⟩:=h1
   have hfu':(decide (0<List.length (α:=e.D) x) && LN l)=true:=hfu
   rw [Bool.and_eq_true] at hfu'
   obtain ⟨bs,rws,k1,k2,k3⟩:=cX hI h2 hfu'.2 fun id' hm=>hfr id' (List.mem_cons_of_mem _ hm)
   have hpos:0<List.length (α:=e.D) x:=of_decide_eq_true hfu'.1
   have hfz:fz=false:=by
    rcases hfr id (List.mem_cons_self ..) with ⟨t,y,gs,h⟩ | ⟨e',l',h⟩
    ·rw [hc] at h;cases h
    ·rw [hc] at h;cases h;rfl
   subst hfz
   rcases hsw with ⟨_,h0,_⟩ | ⟨b,f,cap,cur,T,ym,hb,hh,hcs,hle,hmx,hv⟩
   ·omega
   ·obtain ⟨hf,cur',T',y',hh',hmk,_,_,hrow⟩:=hI.Hn hb hc
    subst hf
    rw [hh] at hh'
    cases hh'
    have hy0:ym=(0,0):=by
     rcases hmk with h | ⟨h,_⟩
     ·exact h
     ·rw [hnb] at h;cases h
    subst hy0
    exact ⟨b :: bs,rws,⟨bs,rws,⟨b,cap,_,_,rfl,rfl,hv,hh,hcs,hle,hmx,hpos,hrow⟩,k1⟩,⟨hb,k2⟩,k3⟩
  have e1:∀ i r,NJ (okG B ok0 g w) g σ w av v i r=(KD (okG B ok0 g w) w av v∧i=r):=by
   intro i r
   unfold NJ
   split
   ·exact absurd ⟨_,_,_,rfl⟩ hq
   ·exact absurd ⟨_,_,rfl⟩ hq2
   ·rfl
  have e2:∀ i r s s',Xi (okG B ok0 g w) w av v i r s s'=(KD (okG B ok0 g w) w av v∧i=r∧s=s'):=by
   intro i r s s'
   unfold Xi
   split
   ·exact absurd ⟨_,_,_,rfl⟩ hq
   ·exact absurd ⟨_,_,rfl⟩ hq2
   ·rfl
  have e3:EZ (av :: l)=EZ l:=by
   cases av with
   | iov t x h=>exact absurd ⟨_,_,_,rfl⟩ hq
   | _=>rfl
  have e4:LN (av :: l)=LN l:=by
   cases av with
   | ioa e x=>exact absurd ⟨_,_,rfl⟩ hq2
   | _=>rfl
  rw [e1] at h1
  rw [e4] at hfu
  obtain ⟨h1,rfl⟩:=h1
  obtain ⟨bs,rws,k1,k2,k3⟩:=cX hI h2 hfu hfr
  exact ⟨bs,rws,⟨bs,rws,by rw [e2];exact ⟨h1,rfl,rfl⟩,k1⟩,k2,by rw [e3];exact k3⟩
 | [],_ :: _,_,h,_,_=>h.elim
 | _ :: _,[],_,h,_,_=>h.elim
theorem Zx0 (hI:Inv B ok0 w0 g σ a w) {ids bs hs:List Nat} {rws:List (Option (Nat×Nat))} (hids:Dz (fun id b=>g.bx id=some (b,false)) ids bs) (hr:Handed g w hs rws) (hd:dis hs=true):Xj w bs rws:=by
 refine ⟨fun i j b u u' h1 h2=>?_,fun b u hm=>?_⟩
 ·obtain ⟨x,k1,k2⟩:=hr.rL h1
  obtain ⟨y,k3,k4⟩:=hr.rL h2
  obtain ⟨k5,k6,_⟩:=k2 b u rfl
  obtain ⟨_,k7,_⟩:=k4 b u' rfl
  have:=hI.ri _ _ _ _ _ k6 k7
  subst this
  exact Rl hd i j x k1 k3 k5
 ·obtain ⟨x,_,k2⟩:=hr.right hm
  obtain ⟨_,k6,_⟩:=k2 b u rfl
  obtain ⟨_,h2,h3⟩:=hI.rb x b u k6
  refine ⟨h2,fun hb=>?_⟩
  obtain ⟨id,_,he⟩:=hids.right hb
  exact h3 id false he
theorem gk (hI:Inv B ok0 w0 g σ a w):∀ {ids bs:List Nat},Dz (fun id b=>g.bx id=some (b,false)) ids bs→ids.Nodup→bs.Nodup
 | [],[],_,_=>List.nodup_nil
 | id :: ids,b :: bs,h,hn=>by
  refine List.nodup_cons.2 ⟨fun hm=>?_,gk hI h.2 (List.nodup_cons.1 hn).2⟩
  obtain ⟨id',h1,h2⟩:=Dz.right h.2 hm
  exact (List.nodup_cons.1 hn).1 (hI.bi _ _ _ _ _ h.1 h2 ▸ h1)
 | [],_ :: _,h,_=>h.elim
 | _ :: _,[],h,_=>h.elim
theorem NJ.more {ok:Nat→Nat→Prop} {av:AV} {v:Value} {ids r:List Nat} (s:List Nat) (h:NJ ok g σ w av v ids r):NJ ok g σ w av v (ids++s) (r++s):=by
 unfold NJ at *
 split at h
 ·obtain ⟨id,b,f,gs,h1,h2⟩:=h
  exact ⟨id,b,f,gs,by rw [h1];rfl,h2⟩
 ·obtain ⟨id,fz,h1,h2⟩:=h
  exact ⟨id,fz,by rw [h1];rfl,h2⟩
 ·exact ⟨h.1,by rw [h.2]⟩
theorem Ih.append {ok:Nat→Nat→Prop}:∀ {l l':List AV} {vs vs':List Value} {ids ids':List Nat},Ih ok g σ w l vs ids→Ih ok g σ w l' vs' ids'→Ih ok g σ w (l++l') (vs++vs') (ids++ids')
 | [],_,[],_,_,_,h,h'=>by cases h;exact h'
 | _ :: _,_,_ :: _,_,_,_,⟨r,h1,h2⟩,h'=>⟨_,h1.more _,Ih.append h2 h'⟩
 | [],_,_ :: _,_,_,_,h,_=>h.elim
 | _ :: _,_,[],_,_,_,h,_=>h.elim
theorem Xk {ok:Nat→Nat→Prop}:∀ {ds:List Dat} {us:List Value},Dz (fun (d:Dat) u=>IY ok w d.t d.x 0 u) ds us→Ih ok g σ w (Gz ds) us []
 | [],[],_=>rfl
 | _ :: _,_ :: _,h=>⟨_,⟨h.1,rfl⟩,Xk h.2⟩
 | [],_ :: _,h=>h.elim
 | _ :: _,[],h=>h.elim
theorem aX {ok:Nat→Nat→Prop}:∀ {ps:List (Nat×Nat)} {us:List Value} {cs:List AV},Dz (fun (p:Nat×Nat) u=>PU g σ p.1 p.2 0 u) ps us→QN σ ps=some cs→Ih ok g σ w cs us (ps.map (·.1))
 | [],[],_,_,h=>by cases h;rfl
 | (id,ver) :: ps,u :: us,cs,h,hc=>by
  unfold QN at hc
  split at hc
  ·rename_i hv
   split at hc
   ·rename_i t x gs hx
    split at hc
    ·rename_i l hl
     cases hc
     obtain ⟨b,f,hb,hp⟩:=h.1.2 hv
     exact ⟨_,⟨id,b,f,gs,rfl,hp,hb,hx,rfl⟩,aX h.2 hl⟩
    ·cases hc
   ·cases hc
  ·cases hc
 | [],_ :: _,_,h,_=>h.elim
 | _ :: _,[],_,h,_=>h.elim
theorem IW {ok ok':Nat→Nat→Prop} {w w':World}:∀ {t:Ty} {x:t.D} {cs:List Value},Gg t=true→RepD ok w t x cs→RepD ok' w' t x cs
 | .int _,_,_,_,h=>h
 | .bool,_,_,_,h=>h
 | .str,_,_,_,h=>h
 | .sl _,_,_,hw,_=>by cases hw
 | .wrap a,_,_,hw,h=>IW (t:=a) hw h
 | .pair a b,_,_,hw,h=>by
  unfold Gg at hw
  rw [Bool.and_eq_true] at hw
  obtain ⟨c1,c2,rfl,h1,h2⟩:=h
  exact ⟨c1,c2,rfl,IW hw.1 h1,IW hw.2 h2⟩
 | .arr m e,_,_,hw,h=>⟨h.1,h.2.1,fun i x hi=>IW (t:=e) hw (h.2.2 i x hi)⟩
 | .lk _,_,_,_,h=>h
theorem VQ {ok ok':Nat→Nat→Prop} {w w':World} {e:Ty} (he:Gg e=true) {l:List e.D} {cur:Array Value} (h:Ix ok w e l cur):Ix ok' w' e l cur:=fun i x hi=>by
 obtain ⟨ys,h1,h2⟩:=h i x hi
 exact ⟨ys,IW he h1,h2⟩
theorem lJ {ok ok':Nat→Nat→Prop} {ρ:Nat→Option (Nat×Nat)}:∀ {ds:List Con} {bs:List Nat} {j:Nat},(∀ d∈ds,Wo d=true)→Mb ok ρ w j ds bs→Mb ok' ρ w j ds bs
 | [],[],_,_,_=>trivial
 | d :: ds,b :: bs,_,hw,⟨h,h3⟩=>by
  refine ⟨?_,lJ (fun x hx=>hw x (List.mem_cons_of_mem _ hx)) h3⟩
  have hd:=hw d (List.mem_cons_self ..)
  cases d with
  | var t x g=>obtain ⟨cs,T,h1,h2,h4⟩:=h;exact ⟨cs,T,h1,IW hd h2,h4⟩
  | arr e l f=>obtain ⟨hf,cur,T,y,h1,hy,h2,h3,h4⟩:=h;exact ⟨hf,cur,T,y,h1,hy,h2,h3,VQ hd h4⟩
  | val v=>exact h.elim
 | [],_ :: _,_,_,h=>h.elim
 | _ :: _,[],_,_,h=>h.elim
theorem lK {ok ok':Nat→Nat→Prop} {ρ ρ':Nat→Option (Nat×Nat)}:∀ {ds:List Dat} {vs:List Value} {j:Nat},(ds.all fun d=>Gg d.t && d.g.isEmpty)=true→Ju ok ρ w j ds vs→Ju ok' ρ' w j ds vs
 | [],[],_,_,_=>trivial
 | d :: ds,v :: vs,j,hw,⟨⟨cs,h1,h2,h3⟩,h4⟩=>by
  rw [List.all_cons,Bool.and_eq_true,Bool.and_eq_true] at hw
  obtain ⟨⟨hw1,hw2⟩,hw3⟩:=hw
  have hg:d.g=[]:=List.isEmpty_iff.1 hw2
  rw [hg] at h4
  refine ⟨⟨cs,IW hw1 h1,h2,by rw [hg];trivial⟩,?_⟩
  rw [hg]
  exact lK hw3 h4
 | [],_ :: _,_,_,h=>h.elim
 | _ :: _,[],_,_,h=>h.elim
theorem Zih {ok ok':Nat→Nat→Prop} {av:AV} {ios:List Con} {bs:List Nat} {rws:List (Option (Nat×Nat))} {v:Value} (ha:Wn av=true) (hi:∀ d∈ios,Wo d=true) (h:KE ok w w' av ios bs rws v):KE ok' w w' av ios bs rws v:=by
 obtain ⟨ρ,h1,h2,h3,h4⟩:=h
 refine ⟨ρ,h1,h2,lJ hi h3,?_⟩
 cases av with
 | dat t x g=>
  unfold Wn at ha
  rw [Bool.and_eq_true] at ha
  have hg:g=[]:=List.isEmpty_iff.1 ha.2
  subst hg
  obtain ⟨cs,k1,k2,_⟩:=h4
  exact ⟨cs,IW ha.1 k1,k2,trivial⟩
 | tup ds=>
  obtain ⟨vs,k1,k2⟩:=h4
  exact ⟨vs,k1,lK ha k2⟩
 | _=>cases ha
theorem gl (hI1:Inv B ok0 w0 g σ1 a w) (hd:∀ d,o.dst=some d→d<a.tmps.size) {ids bs hs:List Nat} {rws:List (Option (Nat×Nat))} (hids:Dz (fun id b=>g.bx id=some (b,false)) ids bs) (hrows:Handed g w hs rws) (hfree:GD σ1 ids=true) {av:AV} {ios:List Con} (hkl:Mg σ1 ids ios) {v:Value} {next:Act→World→Prop}
  (hn:∀ g' a' w',Inv B ok0 w0 g' (imp o ids (DQ hs σ1) av ios) a' w'→a'.tmps.size=a.tmps.size→next a' w') (hb:BelowX ⟨w.heap.size,bs,rws⟩ w w') (hret:KE (okG B ok0 g w) w w' av ios bs rws v):next (a.put o.dst v) w':=by
 obtain ⟨hnd,_⟩:=JO hfree
 obtain ⟨ρ,h1,h2,hio,hav⟩:=hret
 unfold imp at hn
 cases hdst:o.dst with
 | none=>
  rw [hdst] at hn
  simp only at hn
  obtain ⟨g2,hI2,_,_,_⟩:=PC hI1 hb h1 h2 hids hnd hrows hkl.bare 0 0 (fun g' _ hok=>Zd hok ios bs _ hio)
  rw [Me] at hI2
  exact hn g2 _ _ hI2 (by simp [Act.put])
 | some d=>
  rw [hdst] at hn
  simp only at hn
  unfold TZ at hav
  split at hav
  ·rename_i t x gs
   obtain ⟨cs,hrep,hv,htg⟩:=hav
   simp only [Ot,Mz,Nat.zero_add,KF] at hn
   have hbb:=KF d 0 (cnt gs) (Jv ios) (DQ hs σ1)
   rw [Nat.zero_add] at hbb
   rw [MT d (DQ hs σ1) ios (cnt gs) (by omega),hbb] at hn
   obtain ⟨g2,hI2,hok,hrw,_⟩:=PC hI1 hb h1 h2 hids hnd hrows (hkl.IV d (DQ hs σ1) (cnt gs)) d (cnt gs+Jv ios) (fun g' hrw hok=>rK hrw hok ios bs (cnt gs) (Nat.le_refl _) hio)
   refine hn g2 _ _ (hI2.put (dst:=some d) ⟨cs,hrep.mono (fun b o hk=>⟨hok b o hk,rfl⟩),hv,?_⟩ (fun d' hd'=>hd d' (by rw [hdst];exact hd'))) (Iu _ _ _)
   rw [(MU _ _ _).2.2]
   exact Mh hrw gs 0 (by omega) htg
  ·rename_i ds
   obtain ⟨vs,hv,hds⟩:=hav
   simp only [Zc,Mz,Nat.zero_add] at hn
   have hbb:=KF d 0 (JN ds) (Jv ios) (DQ hs σ1)
   rw [Nat.zero_add] at hbb
   rw [MT d (DQ hs σ1) ios (JN ds) (by omega),hbb] at hn
   obtain ⟨g2,hI2,hok,hrw,_⟩:=PC hI1 hb h1 h2 hids hnd hrows (hkl.IV d (DQ hs σ1) (JN ds)) d (JN ds+Jv ios) (fun g' hrw hok=>rK hrw hok ios bs (JN ds) (Nat.le_refl _) hio)
   refine hn g2 _ _ (hI2.put (dst:=some d) ⟨vs,hv,?_⟩ (fun d' hd'=>hd d' (by rw [hdst];exact hd'))) (Iu _ _ _)
   have key:∀ (σ1:St) (N:Nat) (hN:∀ k,k<N→g2.rw (rid d k) = ρ k) (σ2:St) (h2:σ2.r=(El d 0 N σ1).r) (ds:List Dat) (vs:List Value) (j:Nat),j+JN ds≤N→Ju (okR (okG B ok0 g w) w w' rws ρ) ρ w' j ds vs→
     Dz (fun (q:Dat) u=>Ns (okG B ok0 g2 w') g2 σ2 w' q.t q.x q.g u) (PA d σ1 j ds) vs:=by
    intro σ1 N hN σ2 h2 ds
    induction ds with
    | nil=>intro vs j _ h;cases vs with
     | nil=>trivial
     | cons _ _=>exact h.elim
    | cons q ds ih=>
     intro vs j hj h
     cases vs with
     | nil=>exact h.elim
     | cons v vs=>
      obtain ⟨⟨cs,h3,h4,h5⟩,h6⟩:=h
      unfold JN at hj
      exact ⟨⟨cs,h3.mono (fun b o hk=>⟨hok b o hk,rfl⟩),h4,by rw [h2];exact Mh hN q.g j (by omega) h5⟩,ih vs _ (by omega) h6⟩
   exact key _ (JN ds+Jv ios) hrw _ (MU _ _ _).2.2 ds vs 0 (by omega) hds
  ·rename_i e l
   obtain ⟨rfl,rfl,hwd,b,cap,cur,T,q1,q2,q3,q4,q5,q6,rfl,q8⟩:=hav
   have hi0:ids=[]:=by cases ids with
    | nil=>rfl
    | cons _ _=>exact hids.elim
   have hh0:hs=[]:=by cases hs with
    | nil=>rfl
    | cons _ _=>exact hrows.elim
   subst hi0 hh0
   have hbel:Below w.heap.size w w':=hb.below
   have hI2:=hI1.BW (nb:=b) (id:=d) (c:= .arr e l false) (Nat.lt_of_lt_of_le (hd d hdst) hI1.tm) hbel q1 q2 fun ok g' σ' hx'=>⟨rfl,cur,T,_,q3, .inl rfl,by rw [q4];exact Nat.mul_le_mul_right _ q5,by omega,VQ hwd q8⟩
   refine hn _ _ _ (hI2.put (dst:=some d) ⟨?_,fun _=>⟨e,l,false,?_, .inr ⟨b,false,cap,cur,T,_,?_,q3,q4,q5,q6,rfl⟩⟩⟩ (fun d' hd'=>hd d' (by rw [hdst];exact hd'))) (Iu _ _ _)
   ·simp [St.BW,AK,DQ,EL]
   ·simp [St.BW,AK]
   ·simp [G.DA,AK]
  ·rename_i k n
   obtain ⟨b,cap,e,l,f,A,q1,q2,q3,q4,q5,q8,q9,rfl⟩:=hav
   obtain ⟨id,q6,q7⟩:=hids.rL q1
   obtain ⟨g2,hI2,_,_,hbx⟩:=PC hI1 hb h1 h2 hids hnd hrows hkl.bare 0 0 (fun g' _ hok=>Zd hok ios bs _ hio)
   rw [Me] at hI2
   simp only [q6] at hn
   refine hn g2 _ _ (hI2.put (dst:=some d) ⟨Nat.le_refl _,fun _=>⟨e,l,f,A,cap,?_,by omega,q4,q5,fun h0=>⟨b,false,by rw [hbx];exact q7,by rw [Nat.zero_mul];exact q8 h0⟩,q9,rfl⟩⟩ (fun d' hd'=>hd d' (by rw [hdst];exact hd'))) (Iu _ _ _)
   exact PB hnd q6 (by rw [List.getElem?_map,q2];rfl)
  ·exact hav.elim
theorem gm (hI:Inv B ok0 w0 g σ a w) (hs:Still B ok0 g g' σ σ1 w):∀ {ids bs:List Nat},Dz (fun id b=>g'.bx id=some (b,false)) ids bs→(∀ id∈ids,(∃ t x gs,σ.c id=some (.var t x gs))∨∃ e l,σ.c id=some (.arr e l false))→
  Dz (fun id b=>g.bx id=some (b,false)) ids bs
 | [],[],_,_=>trivial
 | id :: ids,b :: bs,⟨h1,h2⟩,hv=>by
  have h1:g'.bx id=some (b,false):=h1
  refine ⟨?_,gm hI hs h2 fun i hi=>hv i (List.mem_cons_of_mem _ hi)⟩
  obtain ⟨_,k6,_,k8,_⟩:=(hs.ext.box id (σ.v id) (Nat.le_refl _)).2 (by rw [hs.v])
  have hc:∃ c,σ.c id=some c∧∀ e l fz,c = .arr e l fz→fz=false:=by
   rcases hv id (List.mem_cons_self ..) with ⟨t,x,gs,hc⟩ | ⟨e,l,hc⟩
   ·exact ⟨_,hc,fun _ _ _ he=>by cases he⟩
   ·exact ⟨_,hc,fun _ _ _ he=>by cases he;rfl⟩
  obtain ⟨c,hc,hz⟩:=hc
  cases hbx:g.bx id with
  | none=>rw [k8 hbx] at h1;cases h1
  | some q=>
   obtain ⟨b0,f0⟩:=q
   obtain ⟨f',hb'⟩:=k6 b0 f0 hbx
   rw [h1] at hb'
   cases hb'
   have hk:=hI.Hn hbx hc
   cases c with
   | var t x gs=>rw [hk.1]
   | arr e l fz=>rw [hk.1,hz e l fz rfl]
   | val v=>rw [hk.1]
 | [],_ :: _,h,_=>h.elim
 | _ :: _,[],h,_=>h.elim
theorem Zy0 {l:List AV} {r:CallRes} {y:r.α} (h:mA l r=some y):r.m=some y∧(JE l=false∨LN l=true∧MM l (r.io y)=true):=by
 unfold mA at h
 cases ha:JE l with
 | true=>
  rw [ha] at h
  have h:mG l r=some y:=h
  unfold mG at h
  cases hf:LN l with
  | false=>rw [hf] at h;cases h
  | true=>
   rw [hf] at h
   have h':(r.m.bind fun x=>bif MM l (r.io x) then some x else none)=some y:=h
   cases hm:r.m with
   | none=>rw [hm] at h';cases h'
   | some z=>
    rw [hm] at h'
    have h2:(bif MM l (r.io z) then some z else none)=some y:=h'
    cases hk:MM l (r.io z) with
    | false=>rw [hk] at h2;cases h2
    | true=>rw [hk] at h2;cases h2;exact ⟨rfl, .inr ⟨rfl,hk⟩⟩
 | false=>
  rw [ha] at h
  exact ⟨h, .inl rfl⟩
theorem lL:∀ {l:List AV},JE l=false→LN l=true
 | [],_=>rfl
 | a :: l,h=>by
  cases a with
  | ioa e x=>cases h
  | _=>exact lL (l:=l) h
theorem OO {ok:Nat→Nat→Prop}:∀ {l:List AV} {vs:List Value} {ids:List Nat},Ih ok g σ w l vs ids→JE l=false→∀ id∈ids,∃ t x gs,σ.c id=some (.var t x gs)
 | [],[],_,h,_,id,hm=>by cases h;cases hm
 | a :: l,v :: vs,ids,⟨r,h1,h2⟩,hn,id,hm=>by
  cases a with
  | ioa e x=>cases hn
  | iov t x h=>
   obtain ⟨i,b,f,gs,rfl,_,_,hc,_⟩:=h1
   rcases List.mem_cons.1 hm with rfl | hm
   ·exact ⟨t,x,gs,hc⟩
   ·exact OO h2 hn id hm
  | _=>obtain ⟨_,rfl⟩:=h1;exact OO h2 hn id hm
 | [],_ :: _,_,h,_,_,_=>h.elim
 | _ :: _,[],_,h,_,_,_=>h.elim
theorem Ua {ok:Nat→Nat→Prop}:∀ {l:List AV} {vs:List Value} {ids:List Nat} {cs:List Con},Ih ok g σ w l vs ids→MM l cs=true→Mg σ ids cs
 | [],[],_,_,h,_=>by cases h;intro k id e l fz h1;simp at h1
 | a :: l,v :: vs,ids,cs,⟨r,h1,h2⟩,hk=>by
  cases a with
  | ioa e x=>
   obtain ⟨i,fz,rfl,hc,_⟩:=h1
   cases cs with
   | nil=>cases hk
   | cons c cs=>
    cases c with
    | arr e' l' f'=>
     have hk':(decide (e'=e) && (!f' && (decide (List.length (α:=e'.D) l'=List.length (α:=e.D) x) && MM l cs)))=true:=hk
     rw [Bool.and_eq_true,Bool.and_eq_true,Bool.and_eq_true] at hk'
     obtain ⟨q1,q2,q3,q4⟩:=hk'
     have q1:=of_decide_eq_true q1
     subst q1
     have q3:=of_decide_eq_true q3
     cases f' with
     | true=>cases q2
     | false=>
      intro k id e2 l2 fz2 g1 g2
      cases k with
      | zero=>
       simp only [List.getElem?_cons_zero,Option.some.injEq] at g1
       subst g1
       rw [hc] at g2
       cases g2
       exact ⟨l',rfl,q3⟩
      | succ k=>
       simp only [List.getElem?_cons_succ] at g1 ⊢
       exact Ua h2 q4 k id e2 l2 fz2 g1 g2
    | _=>cases hk
  | iov t x h=>
   obtain ⟨i,b,f,gs,rfl,_,_,hc,_⟩:=h1
   cases cs with
   | nil=>cases hk
   | cons c cs=>
    intro k id e2 l2 fz2 g1 g2
    cases k with
    | zero=>
     simp only [List.getElem?_cons_zero,Option.some.injEq] at g1
     subst g1
     rw [hc] at g2
     cases g2
    | succ k=>
     simp only [List.getElem?_cons_succ] at g1 ⊢
     exact Ua h2 hk k id e2 l2 fz2 g1 g2
  | _=>
   obtain ⟨_,rfl⟩:=h1
   exact Ua h2 hk
 | [],_ :: _,_,_,h,_=>h.elim
 | _ :: _,[],_,_,h,_=>h.elim
theorem aY (hC:Em P E) (hI:Inv B ok0 w0 g σ a w) (hI1:Inv B ok0 w0 g' σ1 a w) (hst:Still B ok0 g g' σ σ1 w) (hd:∀ d,o.dst=some d→d<a.tmps.size) {f:Nat} {s:Spec} (hs:E.call f=some s) {l:List AV} {vs:List Value} {ids:List Nat}
  (hargs:Ih (okG B ok0 g' w) g' σ1 w l vs ids) (hfree:(GD (JF (E.lend f) σ σ1) ids && (dis (EZ l) && (!E.lend f || ((EZ l).isEmpty && !JE l))))=true) {r:CallRes} (hr:s l=some r) (hrun:(execOp a.eval o).run P w = .ok (.enter f vs.toArray) w):
  CL P B ok0 w0 (.call r.α (mA l r) fun x=>imp o ids (DQ (EZ l) (JF (E.lend f) σ σ1)) (r.enc x) (r.io x)) o a w:=by
 rw [Bool.and_eq_true,Bool.and_eq_true] at hfree
 obtain ⟨hfree,hdis,hemp⟩:=hfree
 intro next Q y hy hn
 obtain ⟨hy,hany⟩:=Zy0 hy
 have hfull:LN l=true:=by
  rcases hany with h | h
  ·exact lL h
  ·exact h.1
 have hback:E.lend f=true→JE l=false:=fun hle=>by
  rw [hle] at hemp
  cases ha:JE l with
  | false=>rfl
  | true=>rw [ha] at hemp;simp at hemp
 have hvar1:∀ id∈ids,(∃ t x gs,σ1.c id=some (.var t x gs))∨∃ e l,σ1.c id=some (.arr e l false):=fun id hm=>by
  cases hle:E.lend f with
  | true=>exact .inl (OO hargs (hback hle) id hm)
  | false=>rw [hle] at hfree;exact (JO hfree).2 id hm
 have hkl:Mg σ1 ids (r.io y):=by
  rcases hany with h | h
  ·intro k id e l fz h1 h2
   obtain ⟨t,x,gs,h3⟩:=OO hargs h id (List.mem_of_getElem? h1)
   rw [h2] at h3;cases h3
  ·exact Ua hargs h.2
 obtain ⟨hcon,_,hlend⟩:=hC f s hs
 obtain ⟨bs,rws,hbs,hids,hhand⟩:=cX hI1 hargs hfull hvar1
 have hnd:=(JO hfree).1
 obtain ⟨z,z1,z2,z3⟩:=hI1.Zff1
 have hcalls:=hcon l r y hr hy (okG B ok0 g' w) w vs bs rws ⟨z,z1,fun b hm=>by
   obtain ⟨id,_,he⟩:=hids.right hm
   exact z2 b (by rcases (hI1.bb id b false he).1 with h | h;exact .inl h;exact .inr h.1),fun b u hm=>by
   obtain ⟨id,_,he⟩:=hhand.right hm
   exact z3 b (by rcases (hI1.rb id b u (he b u rfl).2.1).1 with h | ⟨u0,h,_⟩;exact .inl h;exact .inr ⟨u0,h⟩)⟩ (fun b o hk=>⟨hI1.okB hk,fun hm=>by
   obtain ⟨id,_,he⟩:=hids.right hm
   exact hI1.Ztv hk he,fun u hm=>by
   obtain ⟨id,_,he⟩:=hhand.right hm
   exact hI1.rJ hk (he b u rfl).2.1⟩) (gk hI1 hids hnd) (fun b hm=>by
  obtain ⟨id,_,he⟩:=hids.right hm
  exact (hI1.bb id b false he).2) (Zx0 hI1 hids hhand hdis) hbs
 unfold Oper.wp
 rw [hrun]
 show Calls P f _ w _
 refine hcalls.mono fun e w' h=>?_
 obtain ⟨v,rfl,hb,hret⟩:=h
 simp only
 revert hfree hn hemp
 cases hle:E.lend f with
 | false=>
  intro hfree _ hn
  exact gl hI1 hd hids hhand hfree hkl hn hb hret
 | true=>
  intro hfree hemp hn
  obtain ⟨hw1,hw2⟩:=hlend hle l r y hr
  have h0:EZ l=[]:=by
   rw [Bool.not_true,Bool.false_or,Bool.and_eq_true] at hemp
   exact List.isEmpty_iff.1 hemp.1
  have hkl0:Mg σ ids (r.io y):=fun k id e l' fz h1 h2=>by
   obtain ⟨t,x,gs,h3⟩:=OO hargs (hback hle) id (List.mem_of_getElem? h1)
   obtain ⟨f',h4⟩:=hst.arr _ _ _ _ h2
   rw [h4] at h3;cases h3
  rw [h0] at hhand hn
  have hr0:rws=[]:=by cases rws with
   | nil=>rfl
   | cons _ _=>exact hhand.elim
  subst hr0
  exact gl (hs:=[]) (rws:=[]) hI hd (gm hI hst hids (JO hfree).2) (show Handed g w [] [] from trivial) hfree hkl0 hn hb (Zih hw1 hw2 hret)
theorem aZ {c:Call} (hlen:c.args.toList.length=c.argTypes.toList.length):(c.args.toList.zip c.argTypes.toList).map (fun p=>a.eval p.1)=(c.args.map a.eval).toList:=by
 rw [Array.toList_map,← List.map_fst_zip (l₁:=c.args.toList) (l₂:=c.argTypes.toList) (by omega),List.map_map,List.map_fst_zip (by omega)]
 rfl
theorem Zz0 (hC:Em P E) (hI:Inv B ok0 w0 g σ a w) (hd:∀ d,o.dst=some d→d<a.tmps.size) {c:Call} (ho:o.op = .call c) {x:Operand} (hc:c.callee = .value x) {f:Nat} {ds0:List Dat} (hf:opd σ x = .fn f ds0) {s:Spec} (hs:E.call f=some s)
  {l:List AV} (hl:Hp E (E.inpl f) (c.args.toList.zip c.argTypes.toList) σ = some (l,σ1)) (hlen:c.args.toList.length=c.argTypes.toList.length) {r:CallRes} (hr:s (DW l (Gz ds0))=some r) (hfree:(GD (JF (E.lend f) σ σ1) (Ej σ (E.inpl f) c.args.toList) && (dis (EZ (DW l (Gz ds0))) && (!E.lend f || ((EZ (DW l (Gz ds0))).isEmpty && !JE (DW l (Gz ds0))))))=true):
  CL P B ok0 w0 (.call r.α (mA (DW l (Gz ds0)) r) fun x=>imp o (Ej σ (E.inpl f) c.args.toList) (DQ (EZ (DW l (Gz ds0))) (JF (E.lend f) σ σ1)) (r.enc x) (r.io x)) o a w:=by
 rw [VP] at hr hfree ⊢
 obtain ⟨g1,hI1,hs1,hargs⟩:=Zb hI hl
 have hfx:=DE hI x
 rw [hf] at hfx
 obtain ⟨vs,hv,h2⟩:=hfx
 rw [aZ hlen,List.map_fst_zip (by omega)] at hargs
 have:=hargs.append (Xk (g:=g1) (σ:=σ1) (w:=w) (h2.imp fun d u h=>h.mono fun b o hk=>(hs1.ext.cell b o hk).1))
 rw [List.append_nil] at this
 refine aY hC hI hI1 hs1 hd hs this hfree hr ?_
 unfold execOp;rw [ho]
 simp [resolve,hc,hv,Deferred.ofValue,invoke]
 rw [show c.args.map a.eval++vs.toArray=((c.args.map a.eval).toList++vs).toArray by simp]
 simpa using (hC f s hs).2.1 ((c.args.map a.eval).toList++vs).toArray w
theorem Ze8 (hC:Em P E) (hI:Inv B ok0 w0 g σ a w) (hd:∀ d,o.dst=some d→d<a.tmps.size) {c:Call} (ho:o.op = .call c) {x:Operand} (hc:c.callee = .value x) {f:Nat} {ps:List (Nat×Nat)} (hf:opd σ x = .clo f ps) {s:Spec} (hs:E.call f=some s)
  {l cs:List AV} (hl:Hp E (E.inpl f) (c.args.toList.zip c.argTypes.toList) σ = some (l,σ1)) (hcs:QN σ ps=some cs) (hlen:c.args.toList.length=c.argTypes.toList.length) {r:CallRes} (hr:s (DW l cs)=some r)
  (hfree:(GD (JF (E.lend f) σ σ1) (Ej σ (E.inpl f) c.args.toList++ps.map (·.1)) && (dis (EZ (DW l cs)) && (!E.lend f || ((EZ (DW l cs)).isEmpty && !JE (DW l cs)))))=true):
  CL P B ok0 w0 (.call r.α (mA (DW l cs) r) fun x=>imp o (Ej σ (E.inpl f) c.args.toList++ps.map (·.1)) (DQ (EZ (DW l cs)) (JF (E.lend f) σ σ1)) (r.enc x) (r.io x)) o a w:=by
 rw [VP] at hr hfree ⊢
 obtain ⟨g1,hI1,hs1,hargs⟩:=Zb hI hl
 have hfx:=DE hI x
 rw [hf] at hfx
 obtain ⟨vs,hv,h2⟩:=hfx
 rw [aZ hlen,List.map_fst_zip (by omega)] at hargs
 have:=hargs.append ((aX (ok:=okG B ok0 g w) (w:=w) h2 hcs).still hs1)
 refine aY hC hI hI1 hs1 hd hs this hfree hr ?_
 unfold execOp;rw [ho]
 simp [resolve,hc,hv,Deferred.ofValue,invoke]
 rw [show c.args.map a.eval++vs.toArray=((c.args.map a.eval).toList++vs).toArray by simp]
 simpa using (hC f s hs).2.1 ((c.args.map a.eval).toList++vs).toArray w
end
end Go.AM
end

section
/- Every operation, put together; guards, regions in the text's order. -/
namespace Go.AM
open Go.RowKit (Below)
set_option linter.unusedSectionVars false
variable [Lay]
section
variable {P : Program} {B : Bd} {ok0 : Nat → Nat → Prop} {w0 w w' : World} {g g' : G} {σ σ1 : St} {a : Act} {o : Oper} {E : Env}
theorem Zfh (hE:EnvOk P E) (hC:Em P E) (hI:Inv B ok0 w0 g σ a w) (hd:∀ d,o.dst=some d→d<a.tmps.size) {c:Call} (ho:o.op = .call c):
  CL P B ok0 w0 (KQ E c o σ) o a w:=by
 unfold KQ
 split
 ·rename_i b hb
  split
  ·rename_i x T ha hat
   exact Zh8 hE hI hd ho hb ha hat
  ·rename_i s x T U ha hat
   split
   ·rename_i id ver hs
    exact rM hE hI hd ho hb ha hat hs
   ·exact vQ hE hI hd ho hb ha hat
  ·rename_i x T ha hat
   exact Zkh hE hI hd ho hb ha hat
  ·rename_i s x T U ha hat
   exact Za1 hE hI hd ho hb ha hat
  ·rename_i ha
   refine bg (F:=Builtin.min2) hI hd (fun k j x y=>rfl) fun v r hv u hu=>?_
   unfold execOp;rw [ho]
   simp [resolve,hb,invoke,builtin,Builtin.min_,hv,hu]
  ·rename_i ha
   refine bg (F:=Builtin.max2) hI hd (fun k j x y=>rfl) fun v r hv u hu=>?_
   unfold execOp;rw [ho]
   simp [resolve,hb,invoke,builtin,Builtin.max_,hv,hu]
  ·exact AO
 ·rename_i x hx
  split
  ·rename_i f ds hf
   split
   ·rename_i s hs
    split
    ·rename_i hlen
     split
     ·rename_i l σ' hl
      split
      ·rename_i r hr
       cases hfree:(GD (JF (E.lend f) σ σ') (Ej σ (E.inpl f) c.args.toList) && (dis (EZ (DW l (Gz ds))) && (!E.lend f || ((EZ (DW l (Gz ds))).isEmpty && !JE (DW l (Gz ds)))))) with
       | true=>exact Zz0 hC hI hd ho hx hf hs hl hlen hr hfree
       | false=>exact AO
      ·exact AO
     ·exact AO
    ·exact AO
   ·exact AO
  ·rename_i f ps hf
   split
   ·rename_i s hs
    split
    ·rename_i hlen
     split
     ·rename_i l σ' cs hl hcs
      split
      ·rename_i r hr
       cases hfree:(GD (JF (E.lend f) σ σ') (Ej σ (E.inpl f) c.args.toList++ps.map (·.1)) && (dis (EZ (DW l cs)) && (!E.lend f || ((EZ (DW l cs)).isEmpty && !JE (DW l cs))))) with
       | true=>exact Ze8 hC hI hd ho hx hf hs hl hcs hlen hr hfree
       | false=>exact AO
      ·exact AO
     ·exact AO
    ·exact AO
   ·exact AO
  ·exact AO
 ·exact AO
theorem Zw0 (hE:EnvOk P E) (hC:Em P E) (hI:Inv B ok0 w0 g σ a w) (hd:∀ d,o.dst=some d→d<a.tmps.size):CL P B ok0 w0 (EM E σ o) o a w:=by
 cases ho:o.op with
 | nilCheck x=>exact kA hI hd ho
 | move x=>unfold EM;rw [ho];exact gq hI hd (.inl ho)
 | assign x=>unfold EM;rw [ho];exact gq hI hd (.inr ho)
 | alloc T=>unfold EM;rw [ho];exact Zlh hE hI hd ho
 | box T x=>unfold EM;rw [ho];exact Zf8 hE hI hd ho
 | build T ps=>
  unfold EM;rw [ho]
  dsimp only
  split
  ·rename_i t hT
   split
   ·rename_i hagg
    split
    ·rename_i z gs h;exact Zmh hE hI hd ho hT hagg h
    ·exact AO
   ·exact AO
  ·exact AO
 | buildSlice T n ps=>unfold EM;rw [ho];exact cu hE hI hd ho
 | load T x=>unfold EM;rw [ho];exact Zb1 hE hI hd ho
 | store T x y=>unfold EM;rw [ho];exact Znh hE hI hd ho
 | binOp op T x y U=>
  unfold EM;rw [ho]
  dsimp only
  cases hn:Qb y with
  | true=>exact Zqh hE hI hd ho hn
  | false=>exact Zph hE hI hd ho
 | unOp op T x=>unfold EM;rw [ho];exact Ze1 hI hd ho
 | convert src dst x=>
  unfold EM;rw [ho]
  by_cases h:E.ty src=some .str∧E.ty dst=some (.sl (.int .u8))
  ·exact Zhh hE hI hd ho h.1 h.2
  ·exact rO hE hI hd ho h
 | makeFunc fn p q=>
  unfold EM;rw [ho]
  cases fn with
  | func f=>
   dsimp only
   split
   ·rename_i h
    cases hbx:Hi E o.dst with
    | true=>
     dsimp only [cond]
     split
     ·rename_i ps hq;exact rG hI hd ho h hq
     ·exact AO
    | false=>
     dsimp only [cond]
     split
     ·rename_i ds σ' hq;exact ky hI hd ho h hq
     ·exact AO
   ·exact AO
  | _=>exact AO
 | makeSlice T x y=>unfold EM;rw [ho];exact gr hE hI hd ho
 | slice T x lo hi mx=>
  unfold EM;rw [ho]
  cases mx with
  | none=>exact Zoh hE hI hd ho
  | some m=>exact AO
 | fieldAddr S x f=>unfold EM;rw [ho];exact gw hE hI hd ho
 | field S x f=>unfold EM;rw [ho];exact Zsh hE hI hd ho
 | indexAddr T x i=>unfold EM;rw [ho];exact gx hE hI hd ho
 | index T x i=>unfold EM;rw [ho];exact Zrh hE hI hd ho
 | extract x i=>unfold EM;rw [ho];exact rP hI hd ho
 | call c=>unfold EM;rw [ho];exact Zfh hE hC hI hd ho
 | _=>unfold EM;rw [ho];exact AO
def Step.to (s:Step) (σ':St):Prop:=
 match s with
 | .no=>False
 | .go c σ1=>c=true∧σ' = σ1
 | .call _ m f=>∃ x,m=some x∧σ'=f x
theorem Step.Zgh {R:Type} {s:Step} {k:St→Option R} {r:R} (h:s.run k=some r):∃ σ',s.to σ'∧k σ'=some r:=by
 cases s with
 | no=>cases h
 | go c σ1=>
  cases c with
  | true=>exact ⟨σ1,⟨rfl,rfl⟩,h⟩
  | false=>cases h
 | call α m f=>
  obtain ⟨x,hx,hk⟩:=Option.bind_eq_some_iff.1 h
  exact ⟨f x,⟨x,hx,rfl⟩,hk⟩
def GQ (E:Env) (σ:St) (o:Oper) (σ':St):Prop:=
 match o.op with
 | .pick c x y=>∃ t gs,opd σ c = .dat .bool t gs∧σ' = σ.BO o.dst (if t=true then opd σ x else opd σ y)
 | _=>(EM E σ o).to σ'
theorem Rk {R:Type} {k:St→Option R} {r:R} (h:Wp E σ o k=some r):∃ σ',GQ E σ o σ'∧k σ'=some r:=by
 unfold Wp at h
 unfold GQ
 split at h
 ·rename_i c x y ho
  rw [ho]
  dsimp only
  split at h
  ·rename_i t gs hc
   cases t with
   | true=>exact ⟨_,⟨true,gs,hc,rfl⟩,h⟩
   | false=>exact ⟨_,⟨false,gs,hc,rfl⟩,h⟩
  ·cases h
 ·rename_i hno
  obtain ⟨σ',h1,h2⟩:=Step.Zgh h
  refine ⟨σ',?_,h2⟩
  split
  ·rename_i c x y ho;exact absurd ho (hno c x y)
  ·exact h1
theorem Zb8 (hE:EnvOk P E) (hC:Em P E) (hI:Inv B ok0 w0 g σ a w) (hd:∀ d,o.dst=some d→d<a.tmps.size) {σ':St} (h:GQ E σ o σ') {next:Act→World→Prop} {Q:Exit→Act→World→Prop}
  (hn:∀ g' a' w',Inv B ok0 w0 g' σ' a' w'→a'.tmps.size=a.tmps.size→next a' w'):o.wp P a w next Q:=by
 unfold GQ at h
 split at h
 ·rename_i c x y ho
  obtain ⟨t,gs,hc,rfl⟩:=h
  have hcb:=SW hI hc
  have hrun:(execOp a.eval o).run P w = .ok (.value (if t=true then a.eval x else a.eval y)) w:=by
   unfold execOp;rw [ho]
   simp [hcb,asBool]
  unfold Oper.wp
  rw [hrun]
  refine hn g _ _ (hI.put ?_ hd) (Iu _ _ _)
  cases t with
  | true=>exact DE hI x
  | false=>exact DE hI y
 ·have hs:=Zw0 hE hC hI hd next Q
  revert h hs
  cases EM E σ o with
  | no=>intro h _;exact h.elim
  | go c σ1=>intro h hs;obtain ⟨rfl,rfl⟩:=h;exact hs rfl hn
  | call α m f=>intro h hs;obtain ⟨x,hx,rfl⟩:=h;exact hs x hx hn
end
end Go.AM
end

section
/- Where ways meet: a state cut down to what is kept, under new names. -/
namespace Go.AM
open Go.RowKit (Below)
set_option linter.unusedSectionVars false
variable [Lay]
section
variable {P : Program} {B : Bd} {ok0 : Nat → Nat → Prop} {w0 w w' : World} {g g' : G} {σ σ1 : St} {a : Act} {o : Oper} {E : Env}
def Names:List (Nat×Nat)→Prop
 | []=>True
 | p :: s=>(∀ q∈s,q.1≠p.1)∧(p.2≠0→∀ q∈s,q.2≠p.2)∧Names s
theorem Names.inj:∀ {s:List (Nat×Nat)},Names s→∀ {n m x:Nat},(n,x)∈s→(m,x)∈s→x≠0→n=m
 | [],_,_,_,_,h,_,_=>by cases h
 | p :: s,hn,n,m,x,h1,h2,hx=>by
  rcases List.mem_cons.1 h1 with k1 | k1 <;> rcases List.mem_cons.1 h2 with k2 | k2
  ·rw [← k1] at k2;cases k2;rfl
  ·rw [← k1] at hn;exact absurd rfl (hn.2.1 hx (m,x) k2)
  ·rw [← k2] at hn;exact absurd rfl (hn.2.1 hx (n,x) k1)
  ·exact Names.inj hn.2.2 k1 k2 hx
theorem Names.fn:∀ {s:List (Nat×Nat)},Names s→∀ {n x y:Nat},(n,x)∈s→(n,y)∈s→x=y
 | [],_,_,_,_,h,_=>by cases h
 | p :: s,hn,n,x,y,h1,h2=>by
  rcases List.mem_cons.1 h1 with k1 | k1 <;> rcases List.mem_cons.1 h2 with k2 | k2
  ·rw [← k1] at k2;cases k2;rfl
  ·rw [← k1] at hn;exact absurd rfl (hn.1 (n,y) k2)
  ·rw [← k2] at hn;exact absurd rfl (hn.1 (n,x) k1)
  ·exact Names.fn hn.2.2 k1 k2
def Ru (σ:St) (s:List (Nat×Nat)) (gs gs':List Tag):Prop:=
 ∀ t'∈gs',∃ t∈gs,t'.off=t.off∧t'.sz=t.sz∧t'.ver=0∧t'.id≠0∧(t'.id,t.id)∈s∧(t.id=0∨σ.r t.id=t.ver)
theorem Ru.mono {s s':List (Nat×Nat)} {gs gs':List Tag} (h:Ru σ s gs gs') (hs:∀ p∈s,p∈s'):Ru σ s' gs gs':=by
 intro t' ht'
 obtain ⟨t,h1,h2,h3,h4,h5,h6,h7⟩:=h t' ht'
 exact ⟨t,h1,h2,h3,h4,h5,hs _ h6,h7⟩
theorem rQ {s:List (Nat×Nat)} {n:Nat} (h:(s.all fun z=>!Nat.beq z.1 n)=true):∀ q∈s,q.1≠n:=by
 intro q hq e
 have:=List.all_eq_true.1 h q hq
 subst e
 simp at this
theorem rR {s:List (Nat×Nat)} {n:Nat} (h:(s.all fun z=>!Nat.beq z.2 n)=true):∀ q∈s,q.2≠n:=by
 intro q hq e
 have:=List.all_eq_true.1 h q hq
 subst e
 simp at this
theorem Rv (p:Nat):∀ (gs:List Tag) (s:List (Nat×Nat)),Names s→Names (NY σ p gs s).2∧(∀ q∈s,q∈(NY σ p gs s).2)∧Ru σ (NY σ p gs s).2 gs (NY σ p gs s).1
 | [],s,h=>⟨h,fun q hq=>hq,fun t ht=>by cases ht⟩
 | t :: r,s,h=>by
  unfold NY
  split
  ·rename_i hc
   rw [Bool.and_eq_true] at hc
   have hn:Names ((rid p t.off,t.id) :: s):=by
    refine ⟨rQ hc.1,fun h0=>?_,h⟩
    rcases Bool.or_eq_true _ _ ▸ hc.2 with h1 | h1
    ·exact absurd (Nat.eq_of_beq_eq_true h1) h0
    ·exact rR (Bool.and_eq_true _ _ ▸ h1).2
   obtain ⟨h1,h2,h3⟩:=Rv p r _ hn
   refine ⟨h1,fun q hq=>h2 q (List.mem_cons_of_mem _ hq),fun t' ht'=>?_⟩
   rcases List.mem_cons.1 ht' with rfl | ht'
   ·refine ⟨t,by simp,rfl,rfl,rfl,Qt _ _,h2 _ (by simp),?_⟩
    rcases Bool.or_eq_true _ _ ▸ hc.2 with h4 | h4
    ·exact .inl (Nat.eq_of_beq_eq_true h4)
    ·exact .inr (Nat.eq_of_beq_eq_true (Bool.and_eq_true _ _ ▸ h4).1)
   ·obtain ⟨u,hu,rest⟩:=h3 t' ht'
    exact ⟨u,List.mem_cons_of_mem _ hu,rest⟩
  ·obtain ⟨h1,h2,h3⟩:=Rv p r s h
   refine ⟨h1,h2,fun t' ht'=>?_⟩
   obtain ⟨u,hu,rest⟩:=h3 t' ht'
   exact ⟨u,List.mem_cons_of_mem _ hu,rest⟩
def Ml (cs:List (Nat×Bool)) (σ:St) (s:List (Nat×Nat)) (a a':AV):Prop:=
 match a' with
 | .undef=>True
 | .none=>a = .none
 | .nils=>a = .nils
 | .dat t x gs'=>∃ gs,a = .dat t x gs∧Ru σ s gs gs'
 | .ptr id ver off=>ver=0∧∃ v,a = .ptr id v off∧Fy cs σ id v=true
 | .slw id ver=>ver=0∧∃ v,a = .slw id v∧Fy cs σ id v=true
 | .slm id ver lo n=>ver=0∧∃ v,a = .slm id v lo n∧Fy cs σ id v=true
 | .fn f caps=>a = .fn f caps
 | .clo f qs=>∃ ps,a = .clo f ps∧qs=ps.map (fun p=>(p.1,0))∧ps.all (fun p=>Fy cs σ p.1 p.2)=true
 | .ept t x off=>a = .ept t x off
 | _=>False
theorem Ml.mono {cs:List (Nat×Bool)} {s s':List (Nat×Nat)} {a a':AV} (h:Ml cs σ s a a') (hs:∀ p∈s,p∈s'):Ml cs σ s' a a':=by
 cases a' with
 | dat t x gs'=>obtain ⟨gs,h1,h2⟩:=h;exact ⟨gs,h1,h2.mono hs⟩
 | _=>exact h
theorem Zwh (cs:List (Nat×Bool)) (p:Nat) (b:Bool) (s:List (Nat×Nat)) (a:AV) (h:Names s):Names (Ws cs σ p b s a).2∧(∀ q∈s,q∈(Ws cs σ p b s a).2)∧Ml cs σ (Ws cs σ p b s a).2 a (Ws cs σ p b s a).1:=by
 cases a with
 | dat t x gs=>
  cases b with
  | true=>
   obtain ⟨h1,h2,h3⟩:=Rv (σ:=σ) p gs s h
   exact ⟨h1,h2,gs,rfl,h3⟩
  | false=>exact ⟨h,fun q hq=>hq,gs,rfl,fun t ht=>by cases ht⟩
 | ptr id ver off=>
  refine ⟨h,fun q hq=>hq,?_⟩
  show Ml cs σ s _ (if Fy cs σ id ver=true then AV.ptr id 0 off else .undef)
  cases hk:Fy cs σ id ver with
  | true=>exact ⟨rfl,ver,rfl,hk⟩
  | false=>trivial
 | slw id ver=>
  refine ⟨h,fun q hq=>hq,?_⟩
  show Ml cs σ s _ (if Fy cs σ id ver=true then AV.slw id 0 else .undef)
  cases hk:Fy cs σ id ver with
  | true=>exact ⟨rfl,ver,rfl,hk⟩
  | false=>trivial
 | slm id ver lo n=>
  refine ⟨h,fun q hq=>hq,?_⟩
  show Ml cs σ s _ (if Fy cs σ id ver=true then AV.slm id 0 lo n else .undef)
  cases hk:Fy cs σ id ver with
  | true=>exact ⟨rfl,ver,rfl,hk⟩
  | false=>trivial
 | fn f caps=>exact ⟨h,fun q hq=>hq,rfl⟩
 | clo f ps=>
  refine ⟨h,fun q hq=>hq,?_⟩
  show Ml cs σ s _ (if ps.all (fun p=>Fy cs σ p.1 p.2)=true then AV.clo f (ps.map fun p=>(p.1,0)) else .undef)
  cases hk:ps.all (fun p=>Fy cs σ p.1 p.2) with
  | true=>exact ⟨ps,rfl,rfl,hk⟩
  | false=>trivial
 | iov t x=>exact ⟨h,fun q hq=>hq,trivial⟩
 | ioa e l=>exact ⟨h,fun q hq=>hq,trivial⟩
 | bxv e l=>exact ⟨h,fun q hq=>hq,trivial⟩
 | slp k n=>exact ⟨h,fun q hq=>hq,trivial⟩
 | nils=>exact ⟨h,fun q hq=>hq,rfl⟩
 | none=>exact ⟨h,fun q hq=>hq,rfl⟩
 | undef=>exact ⟨h,fun q hq=>hq,trivial⟩
 | aptr id ver i off=>exact ⟨h,fun q hq=>hq,trivial⟩
 | ept t x off=>exact ⟨h,fun q hq=>hq,rfl⟩
 | tup ds=>exact ⟨h,fun q hq=>hq,trivial⟩
def Qw (σ:St) (s:List (Nat×Nat)) (c c':Option Con):Prop:=
 match c' with
 | Option.none=>True
 | some (.var t x gs')=>∃ gs,c=some (.var t x gs)∧Ru σ s gs gs'
 | some (.arr e l f)=>c=some (.arr e l f)
 | some (.val v)=>c=some (.val v)∧∃ f,v = .fn f []
theorem Qw.mono {s s':List (Nat×Nat)} {c c':Option Con} (h:Qw σ s c c') (hs:∀ p∈s,p∈s'):Qw σ s' c c':=by
 unfold Qw at *
 split at h
 ·trivial
 ·obtain ⟨gs,h1,h2⟩:=h;exact ⟨gs,h1,h2.mono hs⟩
 ·exact h
 ·exact h
theorem Zxh (p:Nat) (b:Bool) (s:List (Nat×Nat)) (c:Option Con) (h:Names s):Names (TK σ p b s c).2∧(∀ q∈s,q∈(TK σ p b s c).2)∧Qw σ (TK σ p b s c).2 c (TK σ p b s c).1∧
  (∀ e l f,c=some (.arr e l f)→(TK σ p b s c).1=some (.arr e l f)):=by
 cases c with
 | none=>exact ⟨h,fun q hq=>hq,trivial,fun e l f he=>by cases he⟩
 | some c=>
  cases c with
  | var t x gs=>
   cases b with
   | true=>
    obtain ⟨h1,h2,h3⟩:=Rv (σ:=σ) (1000+p) gs s h
    exact ⟨h1,h2,⟨gs,rfl,h3⟩,fun e l f he=>by cases he⟩
   | false=>exact ⟨h,fun q hq=>hq,⟨gs,rfl,fun t ht=>by cases ht⟩,fun e l f he=>by cases he⟩
  | arr e l f=>exact ⟨h,fun q hq=>hq,rfl,fun e l f he=>he⟩
  | val v=>
   cases v with
   | fn f caps=>
    cases caps with
    | nil=>exact ⟨h,fun q hq=>hq,⟨rfl,f,rfl⟩,fun e l f he=>by cases he⟩
    | cons _ _=>exact ⟨h,fun q hq=>hq,trivial,fun e l f he=>by cases he⟩
   | _=>exact ⟨h,fun q hq=>hq,trivial,fun e l f he=>by cases he⟩
theorem bl (cs:List (Nat×Bool)):∀ (ks:List (Nat×Bool)) (s:List (Nat×Nat)),Names s→Names (Jd cs σ ks s).2∧(∀ q∈s,q∈(Jd cs σ ks s).2)∧
  ∀ i,Ml cs σ (Jd cs σ ks s).2 (σ.t i) (mkT (Jd cs σ ks s).1 i)
 | [],s,h=>⟨h,fun q hq=>hq,fun i=>trivial⟩
 | (k,b) :: r,s,h=>by
  unfold Jd
  obtain ⟨h1,h2,h3⟩:=Zwh (σ:=σ) cs k b s (σ.t k) h
  obtain ⟨h4,h5,h6⟩:=bl cs r _ h1
  refine ⟨h4,fun q hq=>h5 q (h2 q hq),fun i=>?_⟩
  simp only [mkT]
  cases hb:Nat.beq i k with
  | true=>
   have:=Nat.eq_of_beq_eq_true hb
   subst this
   exact h3.mono h5
  | false=>exact h6 i
theorem bm:∀ (ks:List (Nat×Bool)) (s:List (Nat×Nat)),Names s→Names (Je σ ks s).2∧(∀ q∈s,q∈(Je σ ks s).2)∧
  (∀ i,Qw σ (Je σ ks s).2 (σ.c i) (mkC (Je σ ks s).1 i))∧(∀ i,(ks.any fun z=>Nat.beq z.1 i)=true→∀ e l f,σ.c i=some (.arr e l f)→mkC (Je σ ks s).1 i=some (.arr e l f))∧
  (∀ i c,mkC (Je σ ks s).1 i=some c→(ks.any fun z=>Nat.beq z.1 i)=true)
 | [],s,h=>⟨h,fun q hq=>hq,fun i=>trivial,fun i hi=>by simp at hi,fun i c hc=>by simp [Je,mkC] at hc⟩
 | (k,b) :: r,s,h=>by
  unfold Je
  obtain ⟨h1,h2,h3,h3'⟩:=Zxh (σ:=σ) k b s (σ.c k) h
  obtain ⟨h4,h5,h6,h7,h8⟩:=bm r _ h1
  refine ⟨h4,fun q hq=>h5 q (h2 q hq),fun i=>?_,fun i hi e l f hc=>?_,fun i c hc=>?_⟩
  ·simp only [mkC]
   cases hb:Nat.beq i k with
   | true=>
    have:=Nat.eq_of_beq_eq_true hb
    subst this
    exact h3.mono h5
   | false=>exact h6 i
  ·simp only [mkC]
   cases hb:Nat.beq i k with
   | true=>
    have:=Nat.eq_of_beq_eq_true hb
    subst this
    exact h3' e l f hc
   | false=>
    refine h7 i ?_ e l f hc
    simp only [List.any_cons] at hi
    rcases Bool.or_eq_true _ _ ▸ hi with hk | hk
    ·have:=Nat.eq_of_beq_eq_true hk;subst this;simp at hb
    ·exact hk
  ·simp only [mkC] at hc
   simp only [List.any_cons]
   cases hb:Nat.beq i k with
   | true=>have:=Nat.eq_of_beq_eq_true hb;subst this;simp
   | false=>rw [hb] at hc;rw [h8 i c hc];simp
theorem Inv.norm (h:Inv B ok0 w0 g σ a w) (kp:Keep):∃ g',Inv B ok0 w0 g' (AM.norm kp σ) a w:=by
  obtain ⟨h1,h2,h3⟩:=bl (σ:=σ) kp.c kp.t [] trivial
  obtain ⟨h4,h5,h6,h7,h8⟩:=bm (σ:=σ) kp.c (Jd kp.c σ kp.t []).2 h1
  have h3':=fun i=>(h3 i).mono h5
  generalize hs:(Je σ kp.c (Jd kp.c σ kp.t []).2).2=s at *
  let kept:Nat→Bool:=fun i=>kp.c.any fun z=>Nat.beq z.1 i
  -- the new names' rows
  let rw':Nat→Option (Nat×Nat):=fun n=>match s.find? (fun p=>Nat.beq p.1 n) with
    | some p=>if p.2=0 then none else g.rw p.2
    | none=>none
  have hrw:∀ n x,(n,x)∈s→x≠0→rw' n=g.rw x:=by
    intro n x hm hx
    simp only [rw']
    cases hf:s.find? (fun p=>Nat.beq p.1 n) with
    | none=>have:=List.find?_eq_none.1 hf _ hm;simp at this
    | some p=>
      have hp:=List.mem_of_find?_eq_some hf
      have hpn:p.1=n:=by
        have h9:(fun q:Nat×Nat=>Nat.beq q.1 n) p=true:=List.find?_some (p:=fun q:Nat×Nat=>Nat.beq q.1 n) hf
        exact Nat.eq_of_beq_eq_true h9
      have:(n,p.2)∈s:=by rw [← hpn];exact hp
      have:=h4.fn hm this
      simp only
      rw [← this,if_neg hx]
  have hrw':∀ n r,rw' n=some r→∃ x,x≠0∧(n,x)∈s∧g.rw x=some r:=by
    intro n r hr
    simp only [rw'] at hr
    split at hr
    · rename_i p hf
      have hp:=List.mem_of_find?_eq_some hf
      have hpn:p.1=n:=by
        have h9:(fun q:Nat×Nat=>Nat.beq q.1 n) p=true:=List.find?_some (p:=fun q:Nat×Nat=>Nat.beq q.1 n) hf
        exact Nat.eq_of_beq_eq_true h9
      split at hr
      · cases hr
      · rename_i h0;exact ⟨p.2,h0,by rw [← hpn];exact hp,hr⟩
    · cases hr
  refine ⟨⟨fun id=>if kept id=true then g.bx id else none,rw'⟩,?_⟩
  have hbx:∀ id r,(if kept id=true then g.bx id else none)=some r→g.bx id=some r:=by
    intro id r hr;split at hr
    · exact hr
    · cases hr
  have hok:∀ b off,okG B ok0 g w b off→okG B ok0 ⟨fun id=>if kept id=true then g.bx id else none,rw'⟩ w b off:=by
    intro b off hk
    rcases hk with hk | ⟨q1,q2,q3,q4⟩
    · exact .inl hk
    · refine .inr ⟨q1,q2,fun id he=>q3 id (hbx id _ he),fun id u he=>?_⟩
      obtain ⟨x,_,_,hx⟩:=hrw' id _ he
      exact q4 x u hx
  have htags:∀ (gs gs':List Tag) (cs:List Value),Ru σ s gs gs'→Fi g σ.r w gs cs→Fi ⟨fun id=>if kept id=true then g.bx id else none,rw'⟩ (fun _=>0) w gs' cs:=by
    intro gs gs' cs hn ht t' ht'
    obtain ⟨t,q1,q2,q3,q4,q5,q6,q7⟩:=hn t' ht'
    obtain ⟨k1,k2⟩:=ht t q1
    refine ⟨fun h0=>absurd h0 q5,fun _=>⟨by omega,fun _=>?_⟩⟩
    rw [q2]
    by_cases h0:t.id=0
    · exact .inl (k1 h0)
    · rcases (k2 h0).2 (q7.resolve_left h0) with hv | ⟨b,n,cap,cur,T,hv,hr,rest⟩
      · exact .inl hv
      · refine .inr ⟨b,n,cap,cur,T,hv,?_,by rw [q3];exact rest⟩
        show rw' t'.id=_
        rw [hrw _ _ q6 h0,q3]
        exact hr
  have hkept:∀ id ver,Fy kp.c σ id ver=true→σ.v id=ver∧kept id=true:=by
    intro id ver hk
    unfold Fy at hk
    rw [Bool.and_eq_true] at hk
    exact ⟨Nat.eq_of_beq_eq_true hk.1,hk.2⟩
  exact {
    below:=h.below,hB:=h.hB,h0:=h.h0,hR:=h.hR,defers:=h.defers,lay:=h.lay,tm:=h.tm,nm:=fun id b f hi he=>h.nm id b f hi (hbx id _ he)
    bb:=fun id b f he=>h.bb id b f (hbx id _ he)
    bi:=fun i1 i2 b f f' e1 e2=>h.bi i1 i2 b f f' (hbx i1 _ e1) (hbx i2 _ e2)
    rb:=fun id b u he=>by
      obtain ⟨x,_,_,hx⟩:=hrw' id _ he
      obtain ⟨q1,q2,q3⟩:=h.rb x b u hx
      exact ⟨q1,q2,fun id' f hf=>q3 id' f (hbx id' _ hf)⟩
    ri:=fun i1 i2 b u u' e1 e2=>by
      obtain ⟨x,hx0,hx1,hx2⟩:=hrw' i1 _ e1
      obtain ⟨y,hy0,hy1,hy2⟩:=hrw' i2 _ e2
      have:=h.ri x y b u u' hx2 hy2
      subst this
      exact h4.inj hx1 hy1 hx0
    con:=fun id c hc=>by
      have hc':mkC (Je σ kp.c (Jd kp.c σ kp.t []).2).1 id=some c:=hc
      have hk:=h8 id c hc'
      have hn:=h6 id
      rw [hc'] at hn
      have hkid:kept id=true:=hk
      cases c with
      | var t x gs'=>
        obtain ⟨gs,hg1,hg2⟩:=hn
        obtain ⟨b,f,hb,hf,cs,T,hh,hr,hsf,ht⟩:=h.Zuh hg1 (fun _ _ _ he=>by cases he)
        exact .inr ⟨b,f,by simp only [hkid,if_true];exact hb,hf,cs,T,hh,hr.mono (fun b o hk=>⟨hok b o hk,rfl⟩),hsf,htags gs gs' cs hg2 ht⟩
      | arr e l fz=>
        rcases h.con id _ hn with ⟨hn1,hn2⟩ | ⟨b,f,hb,hf,cur,T,ym,hh,hmk,hsz,hm,hrow⟩
        · exact .inl ⟨by simp only [hkid,if_true];exact hn1,hn2⟩
        refine .inr ⟨b,f,by simp only [hkid,if_true];exact hb,hf,cur,T,ym,hh,hmk,hsz,hm,fun i x hi=>?_⟩
        obtain ⟨ys,hy,hc⟩:=hrow i x hi
        exact ⟨ys,hy.mono (fun b o hk=>⟨hok b o hk,rfl⟩),hc⟩
      | val v=>
        obtain ⟨hg1,f,hv⟩:=hn
        subst hv
        obtain ⟨b,ff,hb,hf,u,T,hh,hr⟩:=h.Zuh hg1 (fun _ _ _ he=>by cases he)
        obtain ⟨vs,hvs,h2'⟩:=hr
        cases vs with
        | nil=>exact .inr ⟨b,ff,by simp only [hkid,if_true];exact hb,hf,u,T,hh,[],hvs,trivial⟩
        | cons _ _=>exact h2'.elim
    slots:=fun t=>by
      show RepA _ _ _ w (mkT (Jd kp.c σ kp.t []).1 t) _
      have hn:=h3' t
      have hr:=h.slots t
      revert hn
      cases mkT (Jd kp.c σ kp.t []).1 t with
      | undef=>intro _;trivial
      | none=>intro hn;rw [(hn:σ.t t = .none)] at hr;exact hr
      | nils=>intro hn;rw [(hn:σ.t t = .nils)] at hr;exact hr
      | dat ty x gs'=>
        intro hn
        obtain ⟨gs,hg1,hg2⟩:=hn
        rw [hg1] at hr
        obtain ⟨cs,r1,r2,r3⟩:=hr
        exact ⟨cs,r1.mono (fun b o hk=>⟨hok b o hk,rfl⟩),r2,htags gs gs' cs hg2 r3⟩
      | ptr id ver off=>
        intro hn
        obtain ⟨rfl,v,hv,hk⟩:=hn
        rw [hv] at hr
        obtain ⟨k1,k2⟩:=hkept id v hk
        obtain ⟨b,f,hb,hp⟩:=hr.2 k1
        exact ⟨Nat.le_refl _,fun _=>⟨b,f,by simp only [k2,if_true];exact hb,hp⟩⟩
      | slw id ver=>
        intro hn
        obtain ⟨rfl,v,hv,hk⟩:=hn
        rw [hv] at hr
        obtain ⟨k1,k2⟩:=hkept id v hk
        obtain ⟨e,l,fz,hc,hp⟩:=hr.2 k1
        refine ⟨Nat.le_refl _,fun _=>⟨e,l,fz,h7 id k2 e l fz hc,?_⟩⟩
        unfold MV
        simp only [k2,if_true]
        exact hp
      | slm id ver lo n=>
        intro hn
        obtain ⟨rfl,v,hv,hk⟩:=hn
        rw [hv] at hr
        obtain ⟨k1,k2⟩:=hkept id v hk
        obtain ⟨e,l,fz,A,cap,hc,rest⟩:=hr.2 k1
        refine ⟨Nat.le_refl _,fun _=>⟨e,l,fz,A,cap,h7 id k2 e l fz hc,?_⟩⟩
        simp only [k2,if_true]
        exact rest
      | clo f qs=>
        intro hn
        obtain ⟨ps,hv,rfl,hk⟩:=hn
        rw [hv] at hr
        obtain ⟨vs,hvs,h2'⟩:=hr
        refine ⟨vs,hvs,?_⟩
        clear hvs hv
        induction ps generalizing vs with
        | nil=>cases vs with
          | nil=>trivial
          | cons _ _=>exact h2'.elim
        | cons p ps ih=>cases vs with
          | nil=>exact h2'.elim
          | cons u vs=>
            rw [List.all_cons,Bool.and_eq_true] at hk
            obtain ⟨k1,k2⟩:=hkept p.1 p.2 hk.1
            refine ⟨⟨Nat.le_refl _,fun _=>?_⟩,ih hk.2 vs h2'.2⟩
            obtain ⟨b,f,hb,hp⟩:=h2'.1.2 k1
            exact ⟨b,f,by simp only [k2,if_true];exact hb,hp⟩
      | iov ty x=>intro hn;exact hn.elim
      | ioa e l=>intro hn;exact hn.elim
      | bxv e l=>intro hn;exact hn.elim
      | slp k n=>intro hn;exact hn.elim
      | fn f caps=>
        intro hn
        rw [(hn:σ.t t = .fn f caps)] at hr
        obtain ⟨vs,hvs,h2'⟩:=hr
        exact ⟨vs,hvs,h2'.imp fun _ _ hp=>hp.mono hok⟩
      | aptr id ver i off=>intro hn;exact hn.elim
      | ept ty x off=>
        intro hn
        rw [(hn:σ.t t = .ept ty x off)] at hr
        exact IY.mono hok hr
      | tup ds=>intro hn;exact hn.elim }
end
end Go.AM
end
