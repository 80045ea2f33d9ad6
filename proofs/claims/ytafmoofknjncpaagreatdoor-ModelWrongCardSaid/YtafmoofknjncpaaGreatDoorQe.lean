/- A part of the proof that ModelWrong holds: its theorems stand as they are typed. -/
import Derived.OpenShut
import Derived.Lib.SmallJoins
import Derived.Deep.Slices
import Derived.Test.YtafmoofknjncpaaGreatDoorZ
set_option linter.all false
set_option maxRecDepth 100000
set_option maxHeartbeats 8000000
namespace Go.Proofs.YtafmoofknjncpaaGreatDoor
open Tryz Go.RowKit Go.ChangeShapes
theorem Amz {a:Int} (h:(Lit.int .u8 a).wf=true):∃c:UInt8,a=(c.toNat:Int):=by
 have h1:0<=a/\a<=255:=by
  simp only[Lit.wf,Zcg,Zhu]at h;exact h
 refine⟨UInt8.ofNat a.toNat,?_⟩;simp;omega
theorem Aon {a:Int} (h:(Lit.int .u64 a).wf=true):∃c:UInt64,a=(c.toNat:Int):=by
 have h1:0<=a/\a<=18446744073709551615:=by
  simp only[Lit.wf,Zcg,Zhu]at h;exact h
 refine⟨UInt64.ofNat a.toNat,?_⟩;simp;omega
set_option maxRecDepth 100000
section
variable {H:Type} {enc:TypeId×Value->H} {W:zN} {base:Nat} {Bd:Bool}
theorem Kw {α:Type} (I:World->(Nat->Prop)->α->List Value->Prop) (K:Nat) {t e:TypeId} (a1:prog.underlying t=some (.slice e)) (J:prog.cellsOf e=K) (a0:0<K)
  (Y:∀n cs x,cs.length=K->DataW.trod enc prog W base (fun _=>true) Bd n e cs=some x->∃y,I W (fun b=>b<W) y cs)
  {fuel:Nat} {cs:zP} {x:DataW H×List MemPlace} (h:DataW.trod enc prog W base (fun _=>true) Bd fuel t cs=some x):∃(l:List α) (v:Value),cs=[v]/\Al I K W (fun b=>b<W) l v/\l.length<=maxLen:=by
 rcases Deep.open_slice a1 h with⟨rfl,_⟩ | ⟨p,len,c,m,n,D,Pl,rfl,_,T,hm,V,_,G⟩
 ·exact⟨[],_,rfl,⟨none,0,rfl,Zab _,.inl rfl⟩,Zap _⟩
 rw[J]at G
 have a4:m=c:=by simpa using V
 have each:∀i,i<len->∃y A,(∀q,q<K->W.cell? ((p.add (i*K)).add q)=A[q]?)/\A.length=K/\I W (fun b=>b<W) y A:=fun i M=>by
  obtain⟨A,h1,h2⟩:=G i yE;have hlen:=(World.cells?_some h1).2.1;obtain⟨y,hy⟩:=Y n A _ hlen h2;exact⟨y,A,(World.cells?_some h1).2.2,hlen,hy⟩
 rcases Zfz len with rfl | hp
 ·exact⟨[],_,rfl,⟨some p,c,rfl,Zap _,.inl rfl⟩,Zap _⟩
 refine⟨List.ofFn fun i:Fin len=>(each i.1 i.2).choose,_,rfl,⟨some p,c,yF,by simpa using T,.inr ?_⟩,yJ⟩
 obtain⟨b,o,s⟩:=p
 obtain⟨a3,a5,h0,a6,_⟩:=each 0 hp
 have h00:=h0 0 a0
 rw[Zam yE]at h00
 obtain rfl:s=none:=by simpa[Addr.add]using World.cell?_spot h00
 refine⟨b,o,rfl,?_,fun i M=>?_⟩
 ·rcases Zga b W.heap.size with F | F
  ·exact F
  simp[World.cell?,Addr.add,Array.getElem?_eq_none F]at h00
 have a2:i<len:=by simpa using M
 obtain⟨A,h1,h2,h3⟩:=(each i a2).choose_spec
 refine⟨A,fun j u O=>?_,by rw[Zel];exact h3⟩
 have U:j<K:=by have:=(Zeg.1 O).1;omega
 have:=h1 j U
 rw[O]at this
 simpa[Go.WideShapes.add_plain]using this
theorem Hf (n:Nat) (cs:zP) (x:DataW H×List MemPlace) (h:DataW.trod enc prog W base (fun _=>true) Bd n 5 cs=some x):∃y:UInt8,cs=[.int .u8 y.toNat]:=by
 obtain⟨z,e,_,hw⟩:=DataW.trod_int underlying5 h;obtain⟨y,rfl⟩:=Amz hw;exact⟨y,e⟩
theorem Qx {fuel:Nat} {cs:zP} {x:DataW H×List MemPlace} (h:DataW.trod enc prog W base (fun _=>true) Bd fuel 22 cs=some x):∃(l:zQ) (v:Value),cs=[v]/\Al Nb 1 W (fun b=>b<W) l v/\l.length<=maxLen:=
 Kw Nb 1 (e:=5) yG yG yH (fun n cs x _ h=>Hf n cs x h) h
theorem Ali (n:Nat) (cs:zP) (x:DataW H×List MemPlace) (M:cs.length=3) (h:DataW.trod enc prog W base (fun _=>true) Bd n 216 cs=some x):∃y,Xw W (fun b=>b<W) y cs:=by
 obtain⟨xs,k,_,_,_,J,A⟩:=Zcr (fs:=#[⟨ "Kind",5,0,false, "", "",0⟩,⟨ "N",5,1,false, "", "",1⟩,⟨ "Bits",38,2,false, "", "",8⟩]) yG h
 match cs,M,xs,J with
 | [V,Y,T],_,[O,a0,a1],_=>
  obtain⟨U,G⟩:=Hf k [V] O (A 0 _ rfl);obtain⟨a2,F⟩:=Hf k [Y] a0 (A 1 _ rfl);obtain⟨z,D,_,hw⟩:=DataW.trod_int (cs:=[T]) (x:=a1) (show prog.underlying 38=some (.int .u64)from yG) (A 2 _ rfl);obtain⟨a3,rfl⟩:=Aon hw;simp only[Zdm,Zhm]at G F D;subst G F D;exact⟨⟨U,a2,a3⟩,rfl⟩
theorem Alh (n:Nat) (cs:zP) (x:DataW H×List MemPlace) (M:cs.length=3) (h:DataW.trod enc prog W base (fun _=>true) Bd n 169 cs=some x):∃y,Xu W (fun b=>b<W) y cs:=by
 obtain⟨xs,k,_,_,_,J,A⟩:=Zcr (fs:=#[⟨ "Kind",5,0,false, "", "",0⟩,⟨ "N",5,1,false, "", "",1⟩,⟨ "M",5,2,false, "", "",2⟩]) yG h
 match cs,M,xs,J with
 | [V,Y,T],_,[O,a0,a1],_=>
  obtain⟨U,G⟩:=Hf k [V] O (A 0 _ rfl);obtain⟨a2,F⟩:=Hf k [Y] a0 (A 1 _ rfl);obtain⟨a3,D⟩:=Hf k [T] a1 (A 2 _ rfl);simp only[Zdm,Zhm]at G F D;subst G F D;exact⟨⟨U,a2,a3⟩,rfl⟩
theorem Aig (n:Nat) (cs:zP) (x:DataW H×List MemPlace) (O:cs.length=4) (h:DataW.trod enc prog W base (fun _=>true) Bd n 131 cs=some x):∃y,Mu W (fun b=>b<W) y cs:=by
 obtain⟨xs,k,_,_,_,M,A⟩:=Zcr (fs:=#[⟨ "Kind",5,0,false, "", "",0⟩,⟨ "N",5,1,false, "", "",1⟩,⟨ "Parts",22,2,false, "", "",8⟩,⟨ "Expr",129,3,false, "", "",32⟩]) yG h
 match cs,O,xs,M with
 | [a0,a1,V,a5],_,[U,a2,a3,a6],_=>
  obtain⟨Y,G⟩:=Hf k [a0] U (A 0 _ rfl);obtain⟨a4,F⟩:=Hf k [a1] a2 (A 1 _ rfl);obtain⟨l2,v2,D,h2,_⟩:=Qx (fuel:=k) (cs:=[V]) (x:=a3) (A 2 _ rfl);obtain⟨T,v3,J,h3,_⟩:=Kw Xw 3 (t:=129) (e:=216) yG yG yH Ali (fuel:=k) (cs:=[a5]) (x:=a6) (A 3 _ rfl);simp only[Zdm,Zhm]at G F D J;subst G F D J;exact⟨⟨Y,a4,l2,T⟩,_,_,rfl,h2,h3⟩
theorem Agk (n:Nat) (cs:zP) (x:DataW H×List MemPlace) (V:cs.length=6) (h:DataW.trod enc prog W base (fun _=>true) Bd n 91 cs=some x):∃y,Iw W (fun b=>b<W) y cs:=by
 obtain⟨xs,k,_,_,_,U,A⟩:=Zcr (fs:=#[⟨ "Kind",5,0,false, "", "",0⟩,⟨ "N",5,1,false, "", "",1⟩,⟨ "Ticks",5,2,false, "", "",2⟩,⟨ "Goto",5,3,false, "", "",3⟩,⟨ "Regex",88,4,false, "", "",8⟩,⟨ "Acts",89,5,false, "", "",32⟩]) yG h
 match cs,V,xs,U with
 | [a4,a5,a2,aa,ae,ab],_,[a1,a6,a7,ad,af,T],_=>
  obtain⟨a3,G⟩:=Hf k [a4] a1 (A 0 _ rfl);obtain⟨a8,F⟩:=Hf k [a5] a6 (A 1 _ rfl);obtain⟨a9,D⟩:=Hf k [a2] a7 (A 2 _ rfl);obtain⟨ac,J⟩:=Hf k [aa] ad (A 3 _ rfl);obtain⟨Y,v4,O,h4,_⟩:=Kw Xu 3 (t:=88) (e:=169) yG yG yH Alh (fuel:=k) (cs:=[ae]) (x:=af) (A 4 _ rfl);obtain⟨a0,v5,M,h5,_⟩:=Kw Mu 4 (t:=89) (e:=131) yG yG yH Aig (fuel:=k) (cs:=[ab]) (x:=T) (A 5 _ rfl);simp only[Zdm,Zhm]at G F D J O M;subst G F D J O M;exact⟨⟨a3,a8,a9,ac,Y,a0⟩,_,_,rfl,h4,h5⟩
theorem Agl {n:Nat} {cs:zP} {x:DataW H×List MemPlace} (M:cs.length=3) (h:DataW.trod enc prog W base (fun _=>true) Bd n 25 cs=some x):∃y,Mj W (fun b=>b<W) y cs/\y.values.length<=maxLen:=by
 obtain⟨xs,k,_,_,_,J,A⟩:=Zcr (fs:=#[⟨ "Buffer",5,0,false, "", "",0⟩,⟨ "Values",22,1,false, "", "",8⟩,⟨ "States",23,2,false, "", "",32⟩]) yG h
 match cs,M,xs,J with
 | [V,Y,T],_,[O,a0,a1],_=>
  obtain⟨U,G⟩:=Hf k [V] O (A 0 _ rfl);obtain⟨l1,v1,F,h1,hm⟩:=Qx (fuel:=k) (cs:=[Y]) (x:=a0) (A 1 _ rfl);obtain⟨l2,v2,D,h2,_⟩:=Kw (Gk (Al Iw 6)) 1 (t:=23) (e:=87) yG yG yH
   (fun n cs x _ h=>by
    obtain⟨l,v,e,h,_⟩:=Kw Iw 6 (e:=91) yG yG yH Agk h;exact⟨l,v,e,h⟩) (fuel:=k) (cs:=[T]) (x:=a1) (A 2 _ rfl)
  simp only[Zdm,Zhm]at G F D;subst G F D;exact⟨⟨U,l1,l2⟩,⟨_,_,rfl,h1,h2⟩,hm⟩
end
end Go.Proofs.YtafmoofknjncpaaGreatDoor
