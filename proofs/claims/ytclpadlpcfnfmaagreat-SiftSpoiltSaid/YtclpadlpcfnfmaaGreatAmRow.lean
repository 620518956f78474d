import Derived.Test.YtclpadlpcfnfmaaGreatAmL6
import Derived.Carry
import Derived.SizedLaws
import Derived.Handed
import Derived.ChangeShapes
/- A law's row out of its call: arguments read as they read before. -/
namespace Go.AM
open Go.RowKit (Below)
set_option linter.unusedSectionVars false
variable [Lay]
section
variable {P : Program} {H : Type} {enc : TypeId × Value -> H} {W W' : World}
theorem trodAll_below (hl:laidOutB P=true) (hb:Below W.heap.size W W'):∀ {Ts:List Nat} {vs:List Value} {ds:List (DataW H)} {p:List MemPlace},(Ts.all λ T=>P.readableRec T && decide (T<P.types.size))=true->
  DataW.TrodAll enc P W 0 (λ _=>true) true Ts vs ds p->DataW.TrodAll enc P W' 0 (λ b=>decide (b<W.heap.size)) true Ts vs ds p
 | [],[],[],p,_,h=>h
 | T :: Ts,v :: vs,d :: ds,p,ht,h=>by
  obtain ⟨p1,q,hm,hr,rfl⟩:=h;simp only [List.all_cons,Bool.and_eq_true] at ht;have AY:∀ x∈p1,x.block<W.heap.size:=λ x hx=>by obtain ⟨m,hm⟩:=hm;exact DataW.trod_lt m _ _ _ hm x hx
  exact ⟨p1,q,Below.trod hl ht.1.1 (Az ht.1.2) hm hb AY,trodAll_below hl hb ht.2 hr,rfl⟩
 | [],[],_ :: _,_,_,h=>h.elim
 | [],_ :: _,[],_,_,h=>h.elim
 | [],_ :: _,_ :: _,_,_,h=>h.elim
 | _ :: _,[],_,_,_,h=>h.elim
 | _ :: _,_ :: _,[],_,_,h=>h.elim
theorem trodAll_len:∀ {Ts:List Nat} {vs:List Value} {ds:List (DataW H)} {p:List MemPlace},DataW.TrodAll enc P W 0 (λ _=>true) true Ts vs ds p->ds.length=Ts.length
 | [],[],[],p,_=>rfl
 | T :: Ts,v :: vs,d :: ds,p,h=>by
  obtain ⟨p1,q,_,hr,_⟩:=h;rw [Aw,Aw,trodAll_len hr]
 | [],[],_ :: _,_,h=>h.elim
 | [],_ :: _,[],_,h=>h.elim
 | [],_ :: _,_ :: _,_,h=>h.elim
 | _ :: _,[],_,_,h=>h.elim
 | _ :: _,_ :: _,[],_,h=>h.elim
theorem list1 {α:Type} {l:List α} (h:l.length=1):∃ a,l=[a]:=by
 match l,h with
 | [a],_=>exact ⟨a,rfl⟩
theorem list2 {α:Type} {l:List α} (h:l.length=2):∃ a b,l=[a,b]:=by
 match l,h with
 | [a,b],_=>exact ⟨a,b,rfl⟩
theorem list3 {α:Type} {l:List α} (h:l.length=3):∃ a b c,l=[a,b,c]:=by
 match l,h with
 | [a,b,c],_=>exact ⟨a,b,c,rfl⟩
theorem list4 {α:Type} {l:List α} (h:l.length=4):∃ a b c d,l=[a,b,c,d]:=by
 match l,h with
 | [a,b,c,d],_=>exact ⟨a,b,c,d,rfl⟩
theorem list5 {α:Type} {l:List α} (h:l.length=5):∃ a b c d e,l=[a,b,c,d,e]:=by
 match l,h with
 | [a,b,c,d,e],_=>exact ⟨a,b,c,d,e,rfl⟩
end
end Go.AM
