import Derived.Test.YtlamhllcnbcbbaaGreatAmL6
import Derived.Test.YtlamhllcnbcbbaaGreatAmWords
import Derived.KernelRfl
/- What the printed proofs lean on: pieces of code, calls with several contracts. -/
namespace Go.AM
set_option linter.unusedSectionVars false
variable [Lay]
def lft:Code→Code
  | .seq a _=>a
  | .cond _ a _=>a
  | .block _ c=>c
  | .loop c=>c
  | c=>c
def rgt:Code→Code
  | .seq _ b=>b
  | .cond _ _ b=>b
  | c=>c
theorem Zfl {α:Type} (c:Bool) (a b:α):(bif c then some a else some b)=some (bif c then a else b):=by cases c <;> rfl
universe u
def AllU {α:Type u} (p:α→Prop):List α→Prop
  | []=>True
  | a :: l=>p a∧AllU p l
theorem AllU.mem {α:Type u} {p:α→Prop}:∀ {l:List α},AllU p l→∀ a∈l,p a
  | a :: l,h,b,hb=>by
    rcases List.mem_cons.1 hb with rfl | hb
    · exact h.1
    · exact AllU.mem h.2 b hb
theorem Ze {P:Program} {tb:Tab} {ks:Keeps} {l:List (Nat×Spec)} (h:AllU (fun p=>Zi P p.1 p.2∧Enters P p.1∧((ks.lend.any fun i=>Nat.beq i p.1)=true→Words p.2)) l):Zgf P (tb.env (look l) ks):=
  fun _ _ hf=>AllU.mem h _ (Zrg hf)
theorem Zk7:∀ {rs:List (Ty×List Tag)} (x:ResD rs),(rs.all fun r=>wordT r.1 && r.2.isEmpty)=true→((encDs rs x).all fun d=>wordT d.t && d.g.isEmpty)=true
  | [],_,_=>rfl
  | [a],x,h=>h
  | a :: b :: r,x,h=>by
    rw [List.all_cons,Bool.and_eq_true] at h
    unfold encDs
    rw [List.all_cons,Bool.and_eq_true]
    exact ⟨h.1,Zk7 (rs:=b :: r) x.2 h.2⟩
theorem Zom1 {ds:List Dat} (h:(ds.all fun d=>wordT d.t && d.g.isEmpty)=true):wordA (encTo ds)=true:=by
  match ds,h with
  | [],_=>rfl
  | [d],h=>simpa [encTo,wordA] using h
  | d :: d2 :: ds,h=>exact h
theorem Zd {ps:List PK} {rs:List (Ty×List Tag)} {F:ArgsD ps→Option (ResD rs)} (h:(rs.all fun r=>wordT r.1 && r.2.isEmpty)=true):Words (spec ps rs F):=by
  intro l r x hs
  unfold spec at hs
  split at hs
  · cases hs
    exact ⟨Zom1 (Zk7 x h),fun d hd=>by cases hd⟩
  · cases hs
theorem Zhy2 {p:PK} {d:Dat} (h:wordT d.t=true):wordC (conD p d)=true:=by
  obtain ⟨t,x,g⟩:=d
  cases p with
  | ioa e=>cases t <;> first | exact h | cases h
  | _=>exact h
theorem Zf3:∀ {ps:List PK} {ds:List Dat},(∀ d∈ds,wordT d.t=true)→∀ c∈conL ps ds,wordC c=true
  | p :: ps,d :: ds,h,c,hc=>by
    rcases List.mem_cons.1 hc with rfl | hc
    · exact Zhy2 (h d (List.mem_cons_self ..))
    · exact Zf3 (fun d hd=>h d (List.mem_cons_of_mem _ hd)) c hc
  | [],d :: ds,h,c,hc=>by
    rcases List.mem_cons.1 hc with rfl | hc
    · exact h d (List.mem_cons_self ..)
    · exact Zf3 (ps:=[]) (fun d hd=>h d (List.mem_cons_of_mem _ hd)) c hc
  | [],[],_,_,hc=>by cases hc
  | _ :: _,[],_,_,hc=>by cases hc
theorem Ziy2 {n:Nat} {ps:List PK} {rs:List (Ty×List Tag)} {F:ArgsD ps→Option (ResD rs)} (h:(rs.all fun r=>wordT r.1 && r.2.isEmpty)=true):Words (Zog n ps rs F):=by
  intro l r x hs
  unfold Zog at hs
  split at hs
  · cases hs
    have h1:=Zk7 x h
    refine ⟨Zom1 ?_,fun d hd=>?_⟩
    · rw [List.all_eq_true] at h1 ⊢
      exact fun d hd=>h1 d (List.mem_of_mem_take hd)
    · rw [List.all_eq_true] at h1
      refine Zf3 (fun d hd=>?_) d hd
      have:=h1 d (List.mem_of_mem_drop hd)
      rw [Bool.and_eq_true] at this
      exact this.1
  · cases hs
section
variable {R : Type}
noncomputable def bd (f:Func):Code:=f.body.getD .skip
def tt (l:List Nat):List (Nat×Bool):=l.map fun i=>(i,true)
@[reducible] noncomputable def run (E : Env) (c : Code) (m : Nat) {ps : List PK} (x : ArgsD ps) (k : K R) : Option R := evC E (evJ E (drE E) m) (drE E) c 0 (st0 ps x) k
noncomputable def ej (E:Env) (n:Nat) (j:Job) (b:Nat) (s:St) (k:K R):Option R:=evJ E (drE E) n j b s k
noncomputable def sqK (E:Env) (m:Nat) (c:Code) (b:Nat) (k:K R):K R:=seqK E (evJ E (drE E) m) c b (evC E (evJ E (drE E) m) (drE E) c b) k
noncomputable def lpK (E:Env) (m:Nat) (c:Code) (b:Nat) (k:K R):K R:=loopK (E.loop b) (fun s=>evJ E (drE E) m (.loop c) b s k) k
end
theorem ind {α:Type} {f g:Nat→α} (h0:f 0=g 0) (hs:∀ n,f n=g n→f (n+1)=g (n+1)):∀ n,f n=g n
  | 0=>h0
  | n+1=>hs n (ind h0 hs n)
theorem nw {p:Prop} (h:false=true):p:=nomatch h
section
variable {P : Program} {tb : Tab} (ht : TabOk P tb) {lk : Nat → Option Spec} {ks : Keeps} {f : FuncId} {fn : Func} {ps : List PK} {rs : List (Ty × List Tag)} {F : ArgsD ps → Option (ResD rs)}
include ht
theorem ctrC {ts:List ResultVar} (h:∀ x,run (tb.env lk ks) (bd fn) fu x (fin (tb.env lk ks) ts [] rs)=F x) (hC:Zgf P (tb.env lk ks))
    (hf:P.funcs[f]? = some fn:=by kernel_rfl) (hb:fn.body=some (bd fn):=by kernel_rfl) (hres:fn.results=ts.toArray:=by kernel_rfl) (hl:ts.length≤4:=by decide) (hin:Zqf fn.ntmps (bd fn)=true:=by kernel_rfl)
    (hps:ps.length≤fn.ntmps∧fn.ntmps≤pid0:=by decide) (hio:ioC ps=0:=by rfl):Zi P f (spec ps rs F):=
  Zpp1 (Tab.envOk ht _ _) hC ht.mixed hf hb hres hl hin hps hio fun x _ hx=>⟨fu,(h x).trans hx⟩
theorem ctrI {ts:List ResultVar} {qs:List PK} (h:∀ x,run (tb.env lk ks) (bd fn) fu x (fin (tb.env lk ks) ts qs rs)=F x) (hC:Zgf P (tb.env lk ks))
    (hf:P.funcs[f]? = some fn:=by kernel_rfl) (hb:fn.body=some (bd fn):=by kernel_rfl) (hres:fn.results=ts.toArray:=by kernel_rfl) (hl:ts.length≤4:=by decide) (hin:Zqf fn.ntmps (bd fn)=true:=by kernel_rfl)
    (hps:ps.length≤fn.ntmps∧fn.ntmps≤pid0:=by decide) (hq:qs=ps.filter ioP:=by rfl):Zi P f (Zog ts.length ps rs F):=by
  subst hq
  exact Zqp1 (Tab.envOk ht _ _) hC ht.mixed hf hb hres hl hin hps fun x _ hx=>⟨fu,(h x).trans hx⟩
theorem ctrS {k t:Nat} {qs:List PK} (h:∀ x,run (tb.env lk ks) (bd fn) fu x (finS k t qs rs)=F x) (hC:Zgf P (tb.env lk ks))
    (hf:P.funcs[f]? = some fn:=by kernel_rfl) (hb:fn.body=some (bd fn):=by kernel_rfl) (hres:fn.results = #[.tmp t]:=by kernel_rfl) (hin:Zqf fn.ntmps (bd fn)=true:=by kernel_rfl)
    (hps:ps.length≤fn.ntmps∧fn.ntmps≤pid0:=by decide) (hk:k<ioC ps:=by decide) (hq:qs=ps.filter ioP:=by rfl):Zi P f (Zsp k ps rs F):=by
  subst hq
  exact Zrp1 (Tab.envOk ht _ _) hC ht.mixed hf hb hres hin hps hk fun x _ hx=>⟨fu,(h x).trans hx⟩
end
end Go.AM
