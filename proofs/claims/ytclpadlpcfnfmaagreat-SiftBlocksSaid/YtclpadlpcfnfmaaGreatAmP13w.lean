import Derived.Test.YtclpadlpcfnfmaaGreatAmP13q
section
/- The program's Takes come to something, whatever the bytes are: numbers. -/
namespace Go.AM.Pure
open Go.AM
def LI (r:List Int×Int):Prop:=r.1.length≤65536∧∀ x∈r.1,BY x
theorem LI.nil (e:Int):LI ([],e):=⟨Nat.zero_le _,fun x hx=>by cases hx⟩
def PT (s:ByteArray) (n w:Int) (r:List Int×Int):Prop:=(r.2=0∧0≤w∧w≤64∧r.1=(List.range n.toNat).map fun k=>LJ s k w.toNat)∨(r.2≠0∧r.1=[])
theorem PT.len {s:ByteArray} {n w:Int} {r:List Int×Int} (h:PT s n w r) (h0:r.2=0):r.1.length=n.toNat:=by
 rcases h with ⟨_,_,_,h⟩ | ⟨h,_⟩
 ·rw [h,Ai,List.length_range]
 ·exact absurd h0 h
def Qr (o:List Dj):Prop:=(Cc o).length≤65536∧∀ i (h:i<o.length),o[i].2.1=((Cc (o.take i)).length:Int)∧1≤o[i].2.2
theorem Qr.nil:Qr []:=⟨Nat.zero_le _,fun i h=>by simp at h⟩
theorem Zt2 {o:List Dj} {i:Nat} (h:i<o.length):(Cc (o.take (i+1))).length=(Cc (o.take i)).length+o[i].2.2.toNat:=by
 rw [take_one h,KM,L8,Ae,AK]
theorem Qr.len {o:List Dj} (h:Qr o):∀ i,i≤o.length→i≤(Cc (o.take i)).length
 | 0,_=>Nat.zero_le _
 | i+1,hi=>by
  have h1:=Qr.len h i (by omega)
  have h2:=(h.2 i (by omega)).2
  rw [Zt2 (by omega)]
  omega
theorem Qr.LN {o:List Dj} (h:Qr o):o.length≤65536:=by
 have:=h.len o.length (Ah _)
 rw [Ar] at this
 have:=h.1
 omega
end Go.AM.Pure
end

section
/- The program's Takes come to something, whatever the bytes are: frames, dictionaries, texts. -/
namespace Go.AM.Pure
open Go.AM
theorem Ynq:BY 0:=⟨by omega,by omega⟩
theorem VT.all {s:ByteArray} {r:Int×Int×Int} (h:VT s r):BY r.1∧0≤r.2.1∧r.2.1≤(s.size:Int):=by
 rcases h with ⟨_,h1,h2,h3⟩ | ⟨_,h1,h2⟩
 ·exact ⟨h3,by omega,h2⟩
 ·rw [h1,h2]
  exact ⟨Ynq,Int.le_refl _,by omega⟩
def DT {α:Type} (ok:α→Prop) (r:List α×List Int×Int):Prop:=r.2.2=0→r.1.length≤65536∧(∀ x∈r.1,ok x)∧r.2.1.length≤65536∧∀ p∈r.2.1,0≤p∧p<(r.1.length:Int)
theorem DT.no {α:Type} {ok:α→Prop} {e:Int} (h:e≠0):DT ok (([]:List α),([]:List Int),e):=fun h0=>absurd h0 h
end Go.AM.Pure
end

section
/- The program's read of a block comes to something, whatever the bytes are; what it takes is put as these bytes. -/
namespace Go.AM.Pure
open Go.AM
def LT (r:List ByteArray×Int):Prop:=r.1.length≤65536
theorem LT.nil (e:Int):LT ([],e):=Nat.zero_le _
def LC (r:List Cell×Int):Prop:=r.1.length≤65536∧∀ c∈r.1,BY c.2.1
theorem LC.nil (e:Int):LC ([],e):=⟨Nat.zero_le _,fun x hx=>by cases hx⟩
end Go.AM.Pure
end
