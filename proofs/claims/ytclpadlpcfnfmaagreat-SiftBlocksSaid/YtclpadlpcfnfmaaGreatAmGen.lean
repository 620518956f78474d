import Derived.Test.YtclpadlpcfnfmaaGreatAmL6
import Derived.Test.YtclpadlpcfnfmaaGreatAmWords
import Derived.KernelRfl
/- What the printed proofs lean on: pieces of code, calls with several contracts. -/
namespace Go.AM
set_option linter.unusedSectionVars false
variable [Lay]
def Bv:Code→Code
 | .seq a _=>a
 | .cond _ a _=>a
 | .block _ c=>c
 | .loop c=>c
 | c=>c
def Bg:Code→Code
 | .seq _ b=>b
 | .cond _ _ b=>b
 | c=>c
theorem KN {α:Type} (c:Bool) (a b:α):(bif c then some a else some b)=some (bif c then a else b):=by cases c <;> rfl
universe u
def Ua {α:Type u} (p:α→Prop):List α→Prop
 | []=>True
 | a :: l=>p a∧Ua p l
theorem Ua.mem {α:Type u} {p:α→Prop}:∀ {l:List α},Ua p l→∀ a∈l,p a
 | a :: l,h,b,hb=>by
  rcases List.mem_cons.1 hb with rfl | hb
  ·exact h.1
  ·exact Ua.mem h.2 b hb
theorem Ba {P:Program} {tb:Tab} {ks:Keeps} {l:List (Nat×Spec)} (h:Ua (fun p=>AY P p.1 p.2∧Enters P p.1∧((ks.lend.any fun i=>Nat.beq i p.1)=true→Words p.2)) l):GJ P (tb.env (look l) ks):=
 fun _ _ hf=>Ua.mem h _ (KP hf)
theorem fC:∀ {rs:List (Ty×List Tag)} (x:DX rs),(rs.all fun r=>Hy r.1 && r.2.isEmpty)=true→((Fo rs x).all fun d=>Hy d.t && d.g.isEmpty)=true
 | [],_,_=>rfl
 | [a],x,h=>h
 | a :: b :: r,x,h=>by
  rw [List.all_cons,Bool.and_eq_true] at h
  unfold Fo
  rw [List.all_cons,Bool.and_eq_true]
  exact ⟨h.1,fC (rs:=b :: r) x.2 h.2⟩
theorem se {ds:List Dat} (h:(ds.all fun d=>Hy d.t && d.g.isEmpty)=true):Wk (Ml ds)=true:=by
 match ds,h with
 | [],_=>rfl
 | [d],h=>simpa [Ml,Wk] using h
 | d :: d2 :: ds,h=>exact h
theorem A9 {ps:List PK} {rs:List (Ty×List Tag)} {F:DO ps→Option (DX rs)} (h:(rs.all fun r=>Hy r.1 && r.2.isEmpty)=true):Words (spec ps rs F):=by
 intro l r x hs
 unfold spec at hs
 split at hs
 ·cases hs
  exact ⟨se (fC x h),fun d hd=>by cases hd⟩
 ·cases hs
theorem Zf5 {p:PK} {d:Dat} (h:Hy d.t=true):Wl (Zeg p d)=true:=by
 obtain ⟨t,x,g⟩:=d
 cases p with
 | ioa e=>cases t <;> first | exact h | cases h
 | _=>exact h
theorem eH:∀ {ps:List PK} {ds:List Dat},(∀ d∈ds,Hy d.t=true)→∀ c∈K9 ps ds,Wl c=true
 | p :: ps,d :: ds,h,c,hc=>by
  rcases List.mem_cons.1 hc with rfl | hc
  ·exact Zf5 (h d (Av ..))
  ·exact eH (fun d hd=>h d (Az _ hd)) c hc
 | [],d :: ds,h,c,hc=>by
  rcases List.mem_cons.1 hc with rfl | hc
  ·exact h d (Av ..)
  ·exact eH (ps:=[]) (fun d hd=>h d (Az _ hd)) c hc
 | [],[],_,_,hc=>by cases hc
 | _ :: _,[],_,_,hc=>by cases hc
theorem Zg5 {n:Nat} {ps:List PK} {rs:List (Ty×List Tag)} {F:DO ps→Option (DX rs)} (h:(rs.all fun r=>Hy r.1 && r.2.isEmpty)=true):Words (Gp n ps rs F):=by
 intro l r x hs
 unfold Gp at hs
 split at hs
 ·cases hs
  have h1:=fC x h
  refine ⟨se ?_,fun d hd=>?_⟩
  ·rw [List.all_eq_true] at h1 ⊢
   exact fun d hd=>h1 d (List.mem_of_mem_take hd)
  ·rw [List.all_eq_true] at h1
   refine eH (fun d hd=>?_) d hd
   have:=h1 d (List.mem_of_mem_drop hd)
   rw [Bool.and_eq_true] at this
   exact this.1
 ·cases hs
section
variable {R : Type}
noncomputable def bd (f:Func):Code:=f.body.getD .skip
def tt (l:List Nat):List (Nat×Bool):=l.map fun i=>(i,true)
@[reducible] noncomputable def run (E : Env) (c : Code) (m : Nat) {ps : List PK} (x : DO ps) (k : K R) : Option R := JO E (Li E (I6 E) m) (I6 E) c 0 (Q3 ps x) k
noncomputable def ej (E:Env) (n:Nat) (j:Job) (b:Nat) (s:St) (k:K R):Option R:=Li E (I6 E) n j b s k
noncomputable def Bt (E:Env) (m:Nat) (c:Code) (b:Nat) (k:K R):K R:=lQ E (Li E (I6 E) m) c b (JO E (Li E (I6 E) m) (I6 E) c b) k
noncomputable def KG (E:Env) (m:Nat) (c:Code) (b:Nat) (k:K R):K R:=Zjd (E.loop b) (fun s=>Li E (I6 E) m (.loop c) b s k) k
end
theorem ind {α:Type} {f g:Nat→α} (h0:f 0=g 0) (hs:∀ n,f n=g n→f (n+1)=g (n+1)):∀ n,f n=g n
 | 0=>h0
 | n+1=>hs n (ind h0 hs n)
theorem BG {α:Type} {f l:Nat→α} {S:α→α} (h:∀ n,f (n+1)=S (f n)) (h0:f 0=l 0:=by rfl) (hl:∀ n,l (n+1)=S (l n):=by intro n;rfl):∀ n,f n=l n:=
 ind h0 fun n e=>by rw [h,hl,e]
def AU:Nat→Code→Code
 | 0,c=>c
 | n+1,c=>Bg (AU n c)
def Bk:Nat→Code→Code
 | 0,c=>c
 | n+1,c=>Bv (Bk n c)
abbrev kq (l c:List (Nat×Keep)) (r:List Nat):Keeps:=⟨l,[],c,⟨tt r,[]⟩,[],[],[],[]⟩
abbrev kz (r:List Nat):Keeps:=kq [] [] r
theorem nw {p:Prop} (h:false=true):p:=nomatch h
section
variable {P : Program} {tb : Tab} (ht : TabOk P tb) {lk : Nat → Option Spec} {ks : Keeps} {f : FuncId} {fn : Func} {ps : List PK} {rs : List (Ty × List Tag)} {F : DO ps → Option (DX rs)}
include ht
theorem BV {ts:List ResultVar} (h:∀ x,run (tb.env lk ks) (bd fn) fu x (fin (tb.env lk ks) ts [] rs)=F x) (hC:GJ P (tb.env lk ks))
  (hf:P.funcs[f]? = some fn:=by kernel_rfl) (hb:fn.body=some (bd fn):=by kernel_rfl) (IP:fn.results=ts.toArray:=by kernel_rfl) (hl:ts.length≤4:=by decide) (CB:F9 fn.ntmps (bd fn)=true:=by kernel_rfl)
  (Ek:ps.length≤fn.ntmps∧fn.ntmps≤pid0:=by decide) (Iy:I7 ps=0:=by rfl):AY P f (spec ps rs F):=
 Znn (Tab.ll ht _ _) hC ht.mixed hf hb IP hl CB Ek Iy fun x _ hx=>⟨fu,(h x).trans hx⟩
theorem b8 {ts:List ResultVar} {qs:List PK} (h:∀ x,run (tb.env lk ks) (bd fn) fu x (fin (tb.env lk ks) ts qs rs)=F x) (hC:GJ P (tb.env lk ks))
  (hf:P.funcs[f]? = some fn:=by kernel_rfl) (hb:fn.body=some (bd fn):=by kernel_rfl) (IP:fn.results=ts.toArray:=by kernel_rfl) (hl:ts.length≤4:=by decide) (CB:F9 fn.ntmps (bd fn)=true:=by kernel_rfl)
  (Ek:ps.length≤fn.ntmps∧fn.ntmps≤pid0:=by decide) (hq:qs=ps.filter GQ:=by rfl):AY P f (Gp ts.length ps rs F):=by
 subst hq
 exact Zon (Tab.ll ht _ _) hC ht.mixed hf hb IP hl CB Ek fun x _ hx=>⟨fu,(h x).trans hx⟩
theorem Yi4 {k t:Nat} {qs:List PK} (h:∀ x,run (tb.env lk ks) (bd fn) fu x (W2 k t qs rs)=F x) (hC:GJ P (tb.env lk ks))
  (hf:P.funcs[f]? = some fn:=by kernel_rfl) (hb:fn.body=some (bd fn):=by kernel_rfl) (IP:fn.results = #[.tmp t]:=by kernel_rfl) (CB:F9 fn.ntmps (bd fn)=true:=by kernel_rfl)
  (Ek:ps.length≤fn.ntmps∧fn.ntmps≤pid0:=by decide) (hk:k<I7 ps:=by decide) (hq:qs=ps.filter GQ:=by rfl):AY P f (O0 k ps rs F):=by
 subst hq
 exact Zpn (Tab.ll ht _ _) hC ht.mixed hf hb IP CB Ek hk fun x _ hx=>⟨fu,(h x).trans hx⟩
theorem BR {ts:List ResultVar} {G:Nat→DO ps→Option (DX rs)} (h:∀ m x,run (tb.env lk ks) (bd fn) m x (fin (tb.env lk ks) ts [] rs)=G m x) (hG:∀ x,G fu x=F x) (hC:GJ P (tb.env lk ks))
  (hf:P.funcs[f]? = some fn:=by kernel_rfl) (hb:fn.body=some (bd fn):=by kernel_rfl) (IP:fn.results=ts.toArray:=by kernel_rfl) (hl:ts.length≤4:=by decide) (CB:F9 fn.ntmps (bd fn)=true:=by kernel_rfl)
  (Ek:ps.length≤fn.ntmps∧fn.ntmps≤pid0:=by decide) (Iy:I7 ps=0:=by rfl):AY P f (spec ps rs F):=
 BV ht (fun x=>(h fu x).trans (hG x)) hC hf hb IP hl CB Ek Iy
theorem RP {ts:List ResultVar} {qs:List PK} {G:Nat→DO ps→Option (DX rs)} (h:∀ m x,run (tb.env lk ks) (bd fn) m x (fin (tb.env lk ks) ts qs rs)=G m x) (hG:∀ x,G fu x=F x) (hC:GJ P (tb.env lk ks))
  (hf:P.funcs[f]? = some fn:=by kernel_rfl) (hb:fn.body=some (bd fn):=by kernel_rfl) (IP:fn.results=ts.toArray:=by kernel_rfl) (hl:ts.length≤4:=by decide) (CB:F9 fn.ntmps (bd fn)=true:=by kernel_rfl)
  (Ek:ps.length≤fn.ntmps∧fn.ntmps≤pid0:=by decide) (hq:qs=ps.filter GQ:=by rfl):AY P f (Gp ts.length ps rs F):=
 b8 ht (fun x=>(h fu x).trans (hG x)) hC hf hb IP hl CB Ek hq
theorem Yy0 {k t:Nat} {qs:List PK} {G:Nat→DO ps→Option (DX rs)} (h:∀ m x,run (tb.env lk ks) (bd fn) m x (W2 k t qs rs)=G m x) (hG:∀ x,G fu x=F x) (hC:GJ P (tb.env lk ks))
  (hf:P.funcs[f]? = some fn:=by kernel_rfl) (hb:fn.body=some (bd fn):=by kernel_rfl) (IP:fn.results = #[.tmp t]:=by kernel_rfl) (CB:F9 fn.ntmps (bd fn)=true:=by kernel_rfl)
  (Ek:ps.length≤fn.ntmps∧fn.ntmps≤pid0:=by decide) (hk:k<I7 ps:=by decide) (hq:qs=ps.filter GQ:=by rfl):AY P f (O0 k ps rs F):=
 Yi4 ht (fun x=>(h fu x).trans (hG x)) hC hf hb IP CB Ek hk hq
end
end Go.AM
