import Derived.Test.YtclpadlpcfnfmaaGreatAmL6
import Derived.Test.YtclpadlpcfnfmaaGreatAmWords
import Derived.KernelRfl
/- What the printed proofs lean on: pieces of code, calls with several contracts. -/
namespace Go.AM
set_option linter.unusedSectionVars false
variable [Lay]
def lft:Code→Code
 | .seq a _=>a
 | .cond _ a _=>a
 | .block _ c=>c
 | .loop c=>c
 | c=>c
def rgt:Code→Code
 | .seq _ b=>b
 | .cond _ _ b=>b
 | c=>c
theorem Gv {α:Type} (c:Bool) (a b:α):(bif c then some a else some b)=some (bif c then a else b):=by cases c <;> rfl
universe u
def YT {α:Type u} (p:α→Prop):List α→Prop
 | []=>True
 | a :: l=>p a∧YT p l
theorem YT.mem {α:Type u} {p:α→Prop}:∀ {l:List α},YT p l→∀ a∈l,p a
 | a :: l,h,b,hb=>by
  rcases List.mem_cons.1 hb with rfl | hb
  ·exact h.1
  ·exact YT.mem h.2 b hb
theorem Ag {P:Program} {tb:Tab} {ks:Keeps} {l:List (Nat×Spec)} (h:YT (fun p=>Ah P p.1 p.2∧Enters P p.1∧((ks.lend.any fun i=>Nat.beq i p.1)=true→Words p.2)) l):Em P (tb.env (look l) ks):=
 fun _ _ hf=>YT.mem h _ (FU hf)
theorem VI:∀ {rs:List (Ty×List Tag)} (x:Ey rs),(rs.all fun r=>Gg r.1 && r.2.isEmpty)=true→((EO rs x).all fun d=>Gg d.t && d.g.isEmpty)=true
 | [],_,_=>rfl
 | [a],x,h=>h
 | a :: b :: r,x,h=>by
  rw [List.all_cons,Bool.and_eq_true] at h
  unfold EO
  rw [List.all_cons,Bool.and_eq_true]
  exact ⟨h.1,VI (rs:=b :: r) x.2 h.2⟩
theorem fe {ds:List Dat} (h:(ds.all fun d=>Gg d.t && d.g.isEmpty)=true):Wn (KO ds)=true:=by
 match ds,h with
 | [],_=>rfl
 | [d],h=>simpa [KO,Wn] using h
 | d :: d2 :: ds,h=>exact h
theorem Af {ps:List PK} {rs:List (Ty×List Tag)} {F:DP ps→Option (Ey rs)} (h:(rs.all fun r=>Gg r.1 && r.2.isEmpty)=true):Words (spec ps rs F):=by
 intro l r x hs
 unfold spec at hs
 split at hs
 ·cases hs
  exact ⟨fe (VI x h),fun d hd=>by cases hd⟩
 ·cases hs
theorem Zog {p:PK} {d:Dat} (h:Gg d.t=true):Wo (Zc4 p d)=true:=by
 obtain ⟨t,x,g⟩:=d
 cases p with
 | ioa e=>cases t <;> first | exact h | cases h
 | _=>exact h
theorem SF:∀ {ps:List PK} {ds:List Dat},(∀ d∈ds,Gg d.t=true)→∀ c∈LG ps ds,Wo c=true
 | p :: ps,d :: ds,h,c,hc=>by
  rcases List.mem_cons.1 hc with rfl | hc
  ·exact Zog (h d (List.mem_cons_self ..))
  ·exact SF (fun d hd=>h d (List.mem_cons_of_mem _ hd)) c hc
 | [],d :: ds,h,c,hc=>by
  rcases List.mem_cons.1 hc with rfl | hc
  ·exact h d (List.mem_cons_self ..)
  ·exact SF (ps:=[]) (fun d hd=>h d (List.mem_cons_of_mem _ hd)) c hc
 | [],[],_,_,hc=>by cases hc
 | _ :: _,[],_,_,hc=>by cases hc
theorem Zpg {n:Nat} {ps:List PK} {rs:List (Ty×List Tag)} {F:DP ps→Option (Ey rs)} (h:(rs.all fun r=>Gg r.1 && r.2.isEmpty)=true):Words (EE n ps rs F):=by
 intro l r x hs
 unfold EE at hs
 split at hs
 ·cases hs
  have h1:=VI x h
  refine ⟨fe ?_,fun d hd=>?_⟩
  ·rw [List.all_eq_true] at h1 ⊢
   exact fun d hd=>h1 d (List.mem_of_mem_take hd)
  ·rw [List.all_eq_true] at h1
   refine SF (fun d hd=>?_) d hd
   have:=h1 d (List.mem_of_mem_drop hd)
   rw [Bool.and_eq_true] at this
   exact this.1
 ·cases hs
section
variable {R : Type}
noncomputable def bd (f:Func):Code:=f.body.getD .skip
def tt (l:List Nat):List (Nat×Bool):=l.map fun i=>(i,true)
@[reducible] noncomputable def run (E : Env) (c : Code) (m : Nat) {ps : List PK} (x : DP ps) (k : K R) : Option R := evC E (evJ E (drE E) m) (drE E) c 0 (st0 ps x) k
noncomputable def ej (E:Env) (n:Nat) (j:Job) (b:Nat) (s:St) (k:K R):Option R:=evJ E (drE E) n j b s k
noncomputable def sqK (E:Env) (m:Nat) (c:Code) (b:Nat) (k:K R):K R:=Zzd E (evJ E (drE E) m) c b (evC E (evJ E (drE E) m) (drE E) c b) k
noncomputable def lpK (E:Env) (m:Nat) (c:Code) (b:Nat) (k:K R):K R:=Ziu (E.loop b) (fun s=>evJ E (drE E) m (.loop c) b s k) k
end
theorem ind {α:Type} {f g:Nat→α} (h0:f 0=g 0) (hs:∀ n,f n=g n→f (n+1)=g (n+1)):∀ n,f n=g n
 | 0=>h0
 | n+1=>hs n (ind h0 hs n)
theorem BL {α:Type} {f l:Nat→α} {S:α→α} (h:∀ n,f (n+1)=S (f n)) (h0:f 0=l 0:=by rfl) (hl:∀ n,l (n+1)=S (l n):=by intro n;rfl):∀ n,f n=l n:=
 ind h0 fun n e=>by rw [h,hl,e]
def rgN:Nat→Code→Code
 | 0,c=>c
 | n+1,c=>rgt (rgN n c)
def lfN:Nat→Code→Code
 | 0,c=>c
 | n+1,c=>lft (lfN n c)
abbrev kq (l c:List (Nat×Keep)) (r:List Nat):Keeps:=⟨l,[],c,⟨tt r,[]⟩,[],[],[],[]⟩
abbrev kz (r:List Nat):Keeps:=kq [] [] r
theorem nw {p:Prop} (h:false=true):p:=nomatch h
section
variable {P : Program} {tb : Tab} (ht : TabOk P tb) {lk : Nat → Option Spec} {ks : Keeps} {f : FuncId} {fn : Func} {ps : List PK} {rs : List (Ty × List Tag)} {F : DP ps → Option (Ey rs)}
include ht
theorem Ci {ts:List ResultVar} (h:∀ x,run (tb.env lk ks) (bd fn) fu x (fin (tb.env lk ks) ts [] rs)=F x) (hC:Em P (tb.env lk ks))
  (hf:P.funcs[f]? = some fn:=by kernel_rfl) (hb:fn.body=some (bd fn):=by kernel_rfl) (hres:fn.results=ts.toArray:=by kernel_rfl) (hl:ts.length≤4:=by decide) (hin:EA fn.ntmps (bd fn)=true:=by kernel_rfl)
  (hps:ps.length≤fn.ntmps∧fn.ntmps≤pid0:=by decide) (hio:ioC ps=0:=by rfl):Ah P f (spec ps rs F):=
 km (Tab.ru ht _ _) hC ht.mixed hf hb hres hl hin hps hio fun x _ hx=>⟨fu,(h x).trans hx⟩
theorem rp {ts:List ResultVar} {qs:List PK} (h:∀ x,run (tb.env lk ks) (bd fn) fu x (fin (tb.env lk ks) ts qs rs)=F x) (hC:Em P (tb.env lk ks))
  (hf:P.funcs[f]? = some fn:=by kernel_rfl) (hb:fn.body=some (bd fn):=by kernel_rfl) (hres:fn.results=ts.toArray:=by kernel_rfl) (hl:ts.length≤4:=by decide) (hin:EA fn.ntmps (bd fn)=true:=by kernel_rfl)
  (hps:ps.length≤fn.ntmps∧fn.ntmps≤pid0:=by decide) (hq:qs=ps.filter ioP:=by rfl):Ah P f (EE ts.length ps rs F):=by
 subst hq
 exact kn (Tab.ru ht _ _) hC ht.mixed hf hb hres hl hin hps fun x _ hx=>⟨fu,(h x).trans hx⟩
theorem Zsh1 {k t:Nat} {qs:List PK} (h:∀ x,run (tb.env lk ks) (bd fn) fu x (fh k t qs rs)=F x) (hC:Em P (tb.env lk ks))
  (hf:P.funcs[f]? = some fn:=by kernel_rfl) (hb:fn.body=some (bd fn):=by kernel_rfl) (hres:fn.results = #[.tmp t]:=by kernel_rfl) (hin:EA fn.ntmps (bd fn)=true:=by kernel_rfl)
  (hps:ps.length≤fn.ntmps∧fn.ntmps≤pid0:=by decide) (hk:k<ioC ps:=by decide) (hq:qs=ps.filter ioP:=by rfl):Ah P f (LH k ps rs F):=by
 subst hq
 exact ko (Tab.ru ht _ _) hC ht.mixed hf hb hres hin hps hk fun x _ hx=>⟨fu,(h x).trans hx⟩
theorem Ca {ts:List ResultVar} {G:Nat→DP ps→Option (Ey rs)} (h:∀ m x,run (tb.env lk ks) (bd fn) m x (fin (tb.env lk ks) ts [] rs)=G m x) (hG:∀ x,G fu x=F x) (hC:Em P (tb.env lk ks))
  (hf:P.funcs[f]? = some fn:=by kernel_rfl) (hb:fn.body=some (bd fn):=by kernel_rfl) (hres:fn.results=ts.toArray:=by kernel_rfl) (hl:ts.length≤4:=by decide) (hin:EA fn.ntmps (bd fn)=true:=by kernel_rfl)
  (hps:ps.length≤fn.ntmps∧fn.ntmps≤pid0:=by decide) (hio:ioC ps=0:=by rfl):Ah P f (spec ps rs F):=
 Ci ht (fun x=>(h fu x).trans (hG x)) hC hf hb hres hl hin hps hio
theorem Rg {ts:List ResultVar} {qs:List PK} {G:Nat→DP ps→Option (Ey rs)} (h:∀ m x,run (tb.env lk ks) (bd fn) m x (fin (tb.env lk ks) ts qs rs)=G m x) (hG:∀ x,G fu x=F x) (hC:Em P (tb.env lk ks))
  (hf:P.funcs[f]? = some fn:=by kernel_rfl) (hb:fn.body=some (bd fn):=by kernel_rfl) (hres:fn.results=ts.toArray:=by kernel_rfl) (hl:ts.length≤4:=by decide) (hin:EA fn.ntmps (bd fn)=true:=by kernel_rfl)
  (hps:ps.length≤fn.ntmps∧fn.ntmps≤pid0:=by decide) (hq:qs=ps.filter ioP:=by rfl):Ah P f (EE ts.length ps rs F):=
 rp ht (fun x=>(h fu x).trans (hG x)) hC hf hb hres hl hin hps hq
theorem Zcf1 {k t:Nat} {qs:List PK} {G:Nat→DP ps→Option (Ey rs)} (h:∀ m x,run (tb.env lk ks) (bd fn) m x (fh k t qs rs)=G m x) (hG:∀ x,G fu x=F x) (hC:Em P (tb.env lk ks))
  (hf:P.funcs[f]? = some fn:=by kernel_rfl) (hb:fn.body=some (bd fn):=by kernel_rfl) (hres:fn.results = #[.tmp t]:=by kernel_rfl) (hin:EA fn.ntmps (bd fn)=true:=by kernel_rfl)
  (hps:ps.length≤fn.ntmps∧fn.ntmps≤pid0:=by decide) (hk:k<ioC ps:=by decide) (hq:qs=ps.filter ioP:=by rfl):Ah P f (LH k ps rs F):=
 Zsh1 ht (fun x=>(h fu x).trans (hG x)) hC hf hb hres hin hps hk hq
end
end Go.AM
