import Derived.Test.YtclpadlpcfnfmaaGreatAmL6
import Derived.Test.YtclpadlpcfnfmaaGreatAmWords
/- What the printed proofs lean on: pieces of code, calls with several contracts. -/
namespace Go.AM
set_option linter.unusedSectionVars false
variable [Lay]
def BM:Code->Code
 | .seq a _=>a
 | .cond _ a _=>a
 | .block _ c=>c
 | .loop c=>c
 | c=>c
def By:Code->Code
 | .seq _ b=>b
 | .cond _ _ b=>b
 | c=>c
theorem Na {α:Type} (c:Bool) (a b:α):(bif c then some a else some b)=some (bif c then a else b):=by cases c <;> rfl
universe u
def Vz {α:Type u} (p:α->Prop):List α->Prop
 | []=>True
 | a :: l=>p a/\Vz p l
theorem Vz.mem {α:Type u} {p:α->Prop}:∀ {l:List α},Vz p l->∀ a∈l,p a
 | a :: l,h,b,hb=>by
  rcases List.mem_cons.1 hb with rfl | hb
  ·exact h.1
  ·exact Vz.mem h.2 b hb
theorem Bn {P:Program} {tb:Tab} {ks:Keeps} {l:List (Nat×Spec)} (h:Vz (λ p=>Bh P p.1 p.2/\Enters P p.1/\((ks.lend.any λ i=>Nat.beq i p.1)=true->Words p.2)) l):Ib P (tb.env (look l) ks):=
 λ _ _ hf=>Vz.mem h _ (LX hf)
theorem jq:∀ {rs:List (Ty×List Tag)} (x:Ev rs),(rs.all λ r=>IP r.1 && r.2.isEmpty)=true->((F9 rs x).all λ d=>IP d.t && d.g.isEmpty)=true
 | [],_,_=>rfl
 | [a],x,h=>h
 | a :: b :: r,x,h=>by
  rw [List.all_cons,Bool.and_eq_true] at h;unfold F9;rw [List.all_cons,Bool.and_eq_true];exact ⟨h.1,jq (rs:=b :: r) x.2 h.2⟩
theorem wu {ds:List Dat} (h:(ds.all λ d=>IP d.t && d.g.isEmpty)=true):XW (No ds)=true:=by
 match ds,h with
 | [],_=>rfl
 | [d],h=>simpa [No,XW] using h
 | d :: d2 :: ds,h=>exact h
theorem Bj {ps:List PK} {rs:List (Ty×List Tag)} {F:En ps->Option (Ev rs)} (h:(rs.all λ r=>IP r.1 && r.2.isEmpty)=true):Words (spec ps rs F):=by
 intro l r x hs;unfold spec at hs;split at hs
 ·cases hs;exact ⟨wu (jq x h),λ d hd=>by cases hd⟩
 ·cases hs
theorem Ygf {p:PK} {d:Dat} (h:IP d.t=true):XX (Zcp p d)=true:=by
 obtain ⟨t,x,g⟩:=d;cases p with
 | ioa e=>cases t <;> first | exact h | cases h
 | _=>exact h
theorem iA:∀ {ps:List PK} {ds:List Dat},(∀ d∈ds,IP d.t=true)->∀ c∈Mb ps ds,XX c=true
 | p :: ps,d :: ds,h,c,hc=>by
  rcases List.mem_cons.1 hc with rfl | hc
  ·exact Ygf (h d (AI ..))
  ·exact iA (λ d hd=>h d (AP _ hd)) c hc
 | [],d :: ds,h,c,hc=>by
  rcases List.mem_cons.1 hc with rfl | hc
  ·exact h d (AI ..)
  ·exact iA (ps:=[]) (λ d hd=>h d (AP _ hd)) c hc
 | [],[],_,_,hc=>by cases hc
 | _ :: _,[],_,_,hc=>by cases hc
theorem Yhf {n:Nat} {ps:List PK} {rs:List (Ty×List Tag)} {F:En ps->Option (Ev rs)} (h:(rs.all λ r=>IP r.1 && r.2.isEmpty)=true):Words (Hm n ps rs F):=by
 intro l r x hs;unfold Hm at hs;split at hs
 ·cases hs;have h1:=jq x h;refine ⟨wu ?_,λ d hd=>?_⟩
  ·rw [List.all_eq_true] at h1 ⊢;exact λ d hd=>h1 d (List.mem_of_mem_take hd)
  ·rw [List.all_eq_true] at h1;refine iA (λ d hd=>?_) d hd;have:=h1 d (List.mem_of_mem_drop hd);rw [Bool.and_eq_true] at this;exact this.1
 ·cases hs
section
variable {R : Type}
noncomputable def bd (f:Func):Code:=f.body.getD .skip
def tt (l:List Nat):List (Nat×Bool):=l.map λ i=>(i,true)
@[reducible] noncomputable def run (E : Env) (c : Code) (m : Nat) {ps : List PK} (x : En ps) (k : K R) : Option R := KL E (Mj E (JP E) m) (JP E) c 0 (Sb ps x) k
noncomputable def ej (E:Env) (n:Nat) (j:Job) (b:Nat) (s:St) (k:K R):Option R:=Mj E (JP E) n j b s k
noncomputable def BJ (E:Env) (m:Nat) (c:Code) (b:Nat) (k:K R):K R:=pt E (Mj E (JP E) m) c b (KL E (Mj E (JP E) m) (JP E) c b) k
noncomputable def Mp (E:Env) (m:Nat) (c:Code) (b:Nat) (k:K R):K R:=Zkm (E.loop b) (λ s=>Mj E (JP E) m (.loop c) b s k) k
end
theorem ind {α:Type} {f g:Nat->α} (h0:f 0=g 0) (hs:∀ n,f n=g n->f (n+1)=g (n+1)):∀ n,f n=g n
 | 0=>h0
 | n+1=>hs n (ind h0 hs n)
theorem BR {α:Type} {f l:Nat->α} {S:α->α} (h:∀ n,f (n+1)=S (f n)) (h0:f 0=l 0:=by rfl) (hl:∀ n,l (n+1)=S (l n):=by intro n;rfl):∀ n,f n=l n:=
 ind h0 λ n e=>by rw [h,hl,e]
def Bb:Nat->Code->Code
 | 0,c=>c
 | n+1,c=>By (Bb n c)
def Bz:Nat->Code->Code
 | 0,c=>c
 | n+1,c=>BM (Bz n c)
abbrev kq (l c:List (Nat×Keep)) (r:List Nat):Keeps:=⟨l,[],c,⟨tt r,[]⟩,[],[],[],[]⟩
abbrev kz (r:List Nat):Keeps:=kq [] [] r
theorem nw {p:Prop} (h:false=true):p:=nomatch h
section
variable {P : Program} {tb : Tab} (ht : TabOk P tb) {lk : Nat -> Option Spec} {ks : Keeps} {f : FuncId} {fn : Func} {ps : List PK} {rs : List (Ty × List Tag)} {F : En ps -> Option (Ev rs)}
include ht
theorem Ck {ts:List ResultVar} (h:∀ x,run (tb.env lk ks) (bd fn) fu x (fin (tb.env lk ks) ts [] rs)=F x) (hC:Ib P (tb.env lk ks))
  (hf:P.funcs[f]? = some fn:=by kernel_rfl) (hb:fn.body=some (bd fn):=by kernel_rfl) (JE:fn.results=ts.toArray:=by kernel_rfl) (hl:ts.length<=4:=by decide) (Dc:GW fn.ntmps (bd fn)=true:=by kernel_rfl)
  (ER:ps.length<=fn.ntmps/\fn.ntmps<=pid0:=by decide) (LK:JQ ps=0:=by rfl):Bh P f (spec ps rs F):=
 Zrw (Tab.oO ht _ _) hC ht.mixed hf hb JE hl Dc ER LK λ x _ hx=>⟨fu,(h x).trans hx⟩
theorem eu {ts:List ResultVar} {qs:List PK} (h:∀ x,run (tb.env lk ks) (bd fn) fu x (fin (tb.env lk ks) ts qs rs)=F x) (hC:Ib P (tb.env lk ks))
  (hf:P.funcs[f]? = some fn:=by kernel_rfl) (hb:fn.body=some (bd fn):=by kernel_rfl) (JE:fn.results=ts.toArray:=by kernel_rfl) (hl:ts.length<=4:=by decide) (Dc:GW fn.ntmps (bd fn)=true:=by kernel_rfl)
  (ER:ps.length<=fn.ntmps/\fn.ntmps<=pid0:=by decide) (hq:qs=ps.filter Ih:=by rfl):Bh P f (Hm ts.length ps rs F):=by
 subst hq;exact Zsw (Tab.oO ht _ _) hC ht.mixed hf hb JE hl Dc ER λ x _ hx=>⟨fu,(h x).trans hx⟩
theorem Xjh {k t:Nat} {qs:List PK} (h:∀ x,run (tb.env lk ks) (bd fn) fu x (YH k t qs rs)=F x) (hC:Ib P (tb.env lk ks))
  (hf:P.funcs[f]? = some fn:=by kernel_rfl) (hb:fn.body=some (bd fn):=by kernel_rfl) (JE:fn.results = #[.tmp t]:=by kernel_rfl) (Dc:GW fn.ntmps (bd fn)=true:=by kernel_rfl)
  (ER:ps.length<=fn.ntmps/\fn.ntmps<=pid0:=by decide) (hk:k<JQ ps:=by decide) (hq:qs=ps.filter Ih:=by rfl):Bh P f (Qd k ps rs F):=by
 subst hq;exact Ztw (Tab.oO ht _ _) hC ht.mixed hf hb JE Dc ER hk λ x _ hx=>⟨fu,(h x).trans hx⟩
theorem B9 {ts:List ResultVar} {G:Nat->En ps->Option (Ev rs)} (h:∀ m x,run (tb.env lk ks) (bd fn) m x (fin (tb.env lk ks) ts [] rs)=G m x) (hG:∀ x,G fu x=F x) (hC:Ib P (tb.env lk ks))
  (hf:P.funcs[f]? = some fn:=by kernel_rfl) (hb:fn.body=some (bd fn):=by kernel_rfl) (JE:fn.results=ts.toArray:=by kernel_rfl) (hl:ts.length<=4:=by decide) (Dc:GW fn.ntmps (bd fn)=true:=by kernel_rfl)
  (ER:ps.length<=fn.ntmps/\fn.ntmps<=pid0:=by decide) (LK:JQ ps=0:=by rfl):Bh P f (spec ps rs F):=
 Ck ht (λ x=>(h fu x).trans (hG x)) hC hf hb JE hl Dc ER LK
theorem S9 {ts:List ResultVar} {qs:List PK} {G:Nat->En ps->Option (Ev rs)} (h:∀ m x,run (tb.env lk ks) (bd fn) m x (fin (tb.env lk ks) ts qs rs)=G m x) (hG:∀ x,G fu x=F x) (hC:Ib P (tb.env lk ks))
  (hf:P.funcs[f]? = some fn:=by kernel_rfl) (hb:fn.body=some (bd fn):=by kernel_rfl) (JE:fn.results=ts.toArray:=by kernel_rfl) (hl:ts.length<=4:=by decide) (Dc:GW fn.ntmps (bd fn)=true:=by kernel_rfl)
  (ER:ps.length<=fn.ntmps/\fn.ntmps<=pid0:=by decide) (hq:qs=ps.filter Ih:=by rfl):Bh P f (Hm ts.length ps rs F):=
 eu ht (λ x=>(h fu x).trans (hG x)) hC hf hb JE hl Dc ER hq
theorem Xtd {k t:Nat} {qs:List PK} {G:Nat->En ps->Option (Ev rs)} (h:∀ m x,run (tb.env lk ks) (bd fn) m x (YH k t qs rs)=G m x) (hG:∀ x,G fu x=F x) (hC:Ib P (tb.env lk ks))
  (hf:P.funcs[f]? = some fn:=by kernel_rfl) (hb:fn.body=some (bd fn):=by kernel_rfl) (JE:fn.results = #[.tmp t]:=by kernel_rfl) (Dc:GW fn.ntmps (bd fn)=true:=by kernel_rfl)
  (ER:ps.length<=fn.ntmps/\fn.ntmps<=pid0:=by decide) (hk:k<JQ ps:=by decide) (hq:qs=ps.filter Ih:=by rfl):Bh P f (Qd k ps rs F):=
 Xjh ht (λ x=>(h fu x).trans (hG x)) hC hf hb JE Dc ER hk hq
end
end Go.AM
