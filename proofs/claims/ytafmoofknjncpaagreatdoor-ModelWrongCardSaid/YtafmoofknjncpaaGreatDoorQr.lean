/- A part of the proof that ModelWrong holds: its theorems stand as they are typed. -/
import Derived.Test.YtafmoofknjncpaaGreatDoorN
import Derived.Test.YtafmoofknjncpaaGreatDoorR
set_option linter.all false
set_option maxRecDepth 100000
set_option maxHeartbeats 8000000
namespace Go.Proofs.YtafmoofknjncpaaGreatDoor
open Tryz Go.RowKit Go.Shelf
theorem If {α:Type} (f:α->Nat) (k:Nat):∀(l:List α),(∀x∈l,f x<=k)->(l.map f).sum<=k*l
 | [],_=>yF
 | a::r,h=>by
  have h1:=If f k r (fun x a1=>h x xP);have h2:=h a yF;simp only[Zbi,Zfm,Zao,Zge,Zba];omega
theorem K3:Dd.size=1:=by simp[Dd,Tree.size,Tree.Bf]
theorem Re.size {Cj:Int} {e:Ex} {p:Dl} (h:Re Cj e p) (he:e.size<=16):p.Bw.size<=16:=by
 rcases h with⟨_,_,_,h⟩ | ⟨_,_,_,h⟩ | ⟨_,_,_,_,_,h⟩ | ⟨_,_,_,h⟩<;>rw[h]
 ·rw[K3];decide
 ·rw[K3];decide
 ·rw[K3];decide
 exact he
theorem Ow.small {Cj:Int} {a:Dv} (h:Ow Cj a):a.Bw.size<=16/\a.Ay.length<=5/\∀p∈a.Ay,p.Bw.size<=16:=by
 obtain⟨e,_,A,⟨_,_,h1,h2⟩ | ⟨_,_,h1,h2⟩ | ⟨_,_,h1,h2⟩⟩:=h
 ·exact⟨by rw[h1,K3];decide,h2.Fm,fun p hp=>(h2.Ay p hp).size A⟩
 ·exact⟨by rw[h1,K3];decide,h2.Fm,fun p hp=>(h2.Ay p hp).size A⟩
 exact⟨by rw[h1];exact A,by rw[h2];simp,by rw[h2];simp⟩
theorem Ow.size {Cj:Int} {a:Dv} (h:Ow Cj a):a.size<=102:=by
 obtain⟨h1,h2,h3⟩:=h.small;have h4:=If (fun p:Dl=>p.Bw.size) 16 a.Ay h3;unfold Dv.size;omega
theorem Ti.Bf {n:Nat} {r:A7} (h:Ti n r):r.size<=333:=by
 have h1:=If Dv.size 102 r.Aw (fun a A=>(h.Aw a A).size);have h2:=h.size;have h3:=h.Fm;unfold A7.size;omega
theorem StateM.size {n:Nat} {x:Bc} (h:StateM n x):x.size<=1665:=by
 have h1:=If A7.size 333 x.Ai (fun a A=>(h.Ai a A).Bf);have h2:=h.Fm;unfold Bc.size;omega
theorem Rf {n:Nat} {l:List A7} (h:∀r∈l,Ti n r):Cu l<=26*l.length:=by
 refine If _ 26 l fun r A=>?_
 split
 ·exact(h r A).size
 omega
theorem Tm {i:Nat} {s:zS} (h:D7[i]? =some s):s∈D7:=Zax h
theorem Adv {s:zS} (h:s∈D7):Hm s:=by
 simp only[D7,Zbc,Zbe,Zic]at h;rcases h with rfl | rfl | rfl | rfl<;>exact⟨yH,yH,yH,yH,yH,yH⟩
theorem Vt {s:zS} (h:s∈Dq):Hm s:=by
 simp only[Dq,Zbc,Zbe,Zic]at h;rcases h with rfl | rfl<;>exact⟨yH,yH,yH,yH,yH,yH⟩
theorem Adb (i j:Nat) (a b:zS) (h1:D7[i]? =some a) (h2:D7[j]? =some b) (h:a.toList=b.toList):i=j:=by
 rw[Zcp,Zcp]at h;have A:=(Zeg.1 h1).1;have D:=(Zeg.1 h2).1;have G:i<4:=A;have F:j<4:=D;rcases(show i=0\/i=1\/i=2\/i=3 from yE)with rfl | rfl | rfl | rfl<;>rcases(show j=0\/j=1\/j=2\/j=3 from yE)with rfl | rfl | rfl | rfl<;>
  first
   | rfl
   | (simp only[D7,Zad,Zae,Zbb]at h1 h2;subst h1;subst h2;exact absurd h yH)
theorem Abc {i k:Nat} {p:B9}:∀ {m:Nat} {l:List Dv},p∈E6 i k m l->∃j a,l[j]? =some a/\p∈Na i k (m+j) a
 | m,[],h=>by simp[E6]at h
 | m,a::r,h=>by
  simp only[E6,Zew]at h;rcases h with h | h
  ·exact⟨0,a,rfl,h⟩
  ·obtain⟨j,b,h1,h2⟩:=Abc h
   exact⟨j+1,b,h1,tX⟩
theorem Yl {i:Nat} {p:B9}:∀ {m:Nat} {l:List A7},p∈C9 i m l->∃j a,l[j]? =some a/\p∈Jp i (m+j) a
 | m,[],h=>by simp[C9]at h
 | m,a::r,h=>by
  simp only[C9,Zew]at h;rcases h with h | h
  ·exact⟨0,a,rfl,h⟩
  ·obtain⟨j,b,h1,h2⟩:=Yl h
   exact⟨j+1,b,h1,tX⟩
theorem Vx {p:B9}:∀ {m:Nat} {l:List Bc},p∈Cr m l->∃j a,l[j]? =some a/\p∈Hb (m+j) a
 | m,[],h=>by simp[Cr]at h
 | m,a::r,h=>by
  simp only[Cr,Zew]at h;rcases h with h | h
  ·exact⟨0,a,rfl,h⟩
  ·obtain⟨j,b,h1,h2⟩:=Vx h
   exact⟨j+1,b,h1,tX⟩
theorem Uy {l:List Et} (h:Pf l):(∀x∈Cv,Fp l x=some true)/\(∀x∈Dq,Fp l x=some false):=by
 obtain⟨f0,f1,f2,f3,t0,t1,rfl,_,_,_⟩:=h.is;refine⟨fun x A=>?_,fun x A=>?_⟩
 ·simp only[Cv,Zbc,Zbe,Zic]at A
  rcases A with rfl | rfl | rfl | rfl<;>simp[Fp,Dt,Ht,Cv,Dq,Zdv,Zcp,nX,nY,nZ,nL]
 simp only[Dq,Zbc,Zbe,Zic]at A;rcases A with rfl | rfl<;>simp[Fp,Dt,Ht,Cv,Dq,Zdv,Zcp,nX,nY,nZ,nL]
theorem Ro {l:List Et} (h:Pf l):l.length=6:=by
 obtain⟨f0,f1,f2,f3,t0,t1,rfl,_,_,_⟩:=h.is;rfl
theorem Aa9 (i j:Nat) (a b:zS) (h1:(Cv++Dq)[i]? =some a) (h2:(Cv++Dq)[j]? =some b) (h:a.toList=b.toList):i=j:=by
 rw[Zcp,Zcp]at h;have A:i<6:=(Zeg.1 h1).1;have D:j<6:=(Zeg.1 h2).1;rcases(show i=0\/i=1\/i=2\/i=3\/i=4\/i=5 from yE)with rfl | rfl | rfl | rfl | rfl | rfl<;>rcases(show j=0\/j=1\/j=2\/j=3\/j=4\/j=5 from yE)with rfl | rfl | rfl | rfl | rfl | rfl<;>
  first
   | rfl
   | (simp only[Cv,Dq,Zas,Zau,Zad,Zae,Zbb]at h1 h2;subst h1;subst h2;exact absurd h yH)
theorem Ux {l:List Et} (h:Pf l) (i:Nat) (v:Et) (D:l[i]? =some v):(Cv++Dq)[i]? =some v.name/\Wr v:=by
 obtain⟨f0,f1,f2,f3,t0,t1,rfl,A,h0,h1⟩:=h.is;have F:i<6:=(Zeg.1 D).1;rcases(show i=0\/i=1\/i=2\/i=3\/i=4\/i=5 from yE)with rfl | rfl | rfl | rfl | rfl | rfl<;>simp only[Dt,Ht,Cv,Dq,Zfs,Zft,List.zip_nil_left,Zbi,Zeu,Zas,Zau,Zad,Zae,Zbb]at D<;>subst D<;>refine⟨rfl,?_⟩
 ·exact⟨(A f0 yF).1,(A f0 yF).2,rfl⟩
 ·exact⟨(A f1 yF).1,(A f1 yF).2,rfl⟩
 ·exact⟨(A f2 yF).1,(A f2 yF).2,rfl⟩
 ·exact⟨(A f3 yF).1,(A f3 yF).2,rfl⟩
 ·exact⟨rfl,by simp only;omega⟩
 exact⟨rfl,by simp only;omega⟩
theorem Ow.ok {s:Ap} {r:A7} {a:Dv} (D:Pf s.An) (h:Ow (Ei r) a):Tj s r a:=by
 obtain⟨A,F⟩:=Uy D;have G:=h.small;obtain⟨e,he,_,⟨k,h0,h1,h2⟩ | ⟨k,h0,h1,h2⟩ | ⟨k,h0,h1,h2⟩⟩:=h
 ·exact⟨.inl k,fun _=>h0,fun _=>h1,fun e=>wM,yE,fun e=>wM,fun e=>wM⟩
 ·exact⟨.inr (.inl k),fun e=>wM,fun _=>h1,fun e=>wM,yE,fun _=>F _ h0,fun e=>wM⟩
 exact⟨.inr (.inr k),fun e=>wM,fun e=>absurd k e,fun _=>⟨h2,by rw[h1];exact he.clean,by rw[h1];exact he.Apq A,by rw[h1];exact Ae7 (Xp r) _ he.Bv⟩,yE,fun e=>wM,fun _=>A _ h0⟩
theorem Yq {s:zS} (h:s∈Fx):1<=s.size/\s.size<=512:=by
 simp only[Fx,Zbc,Zbe,Zic]at h;rcases h with rfl | rfl | rfl | rfl | rfl<;>exact⟨yH,yH⟩
theorem Re.ok {s:Ap} {r:A7} {l:List Dl} {e:Ex} (F:Pf s.An) (he:D0 (Ei r) e) (A:Sx (Ei r) e l) (i:Nat) (p:Dl) (hp:l[i]? =some p):H9 s r l i p:=by
 obtain⟨D,J⟩:=Uy F;refine⟨?_,fun j q G H=>?_⟩
 ·rcases A.Ay p (Zax hp)with⟨k,h1,h2,h3⟩ | ⟨k,h1,h2,h3⟩ | ⟨k,h1,h2,h3,h4,h5⟩ | ⟨k,h1,h2,h3⟩
  ·exact .inl ⟨k,(Yq h1).1,(Yq h1).2,h2,h3⟩
  ·refine .inr (.inl ⟨k,?_,h2,h3,?_⟩)
   ·rcases h1 with h1 | h1
    ·exact Vt h1
    exact Q0 h1
   rcases h1 with h1 | h1
   ·rw[J _ h1];rfl
   rw[D _ h1];rfl
  ·exact .inr (.inr (.inl ⟨k,h1,h2,h3,h4,h5⟩))
  exact .inr (.inr (.inr ⟨k,h1,h2,by rw[h3];exact he.clean,by rw[h3];exact he.Apq D,by rw[h3];exact Ae7 (Xp r) _ he.Bv⟩))
 have:=A.apart j p q H (by rw[G];exact hp);exact this
theorem Ow.Aq2 {Cj:Int} {a:Dv} (h:Ow Cj a):∃e,D0 Cj e/\Sx Cj e a.Ay:=by
 obtain⟨e,he,_,⟨_,_,_,h2⟩ | ⟨_,_,_,h2⟩ | ⟨_,_,_,h2⟩⟩:=h
 ·exact⟨e,he,h2⟩
 ·exact⟨e,he,h2⟩
 exact⟨e,he,by rw[h2];exact⟨yF,fun j p q A=>by simp at A,yF⟩⟩
theorem H7.total {s:Ap} (h:H7 s) (i k:Nat) (D:i<s.Ac):Fv s i k<=600:=by
 have G:∀x∈s.Ac,Cu x.Ai<=130:=fun x A=>by
  have h1:=Rf (h.Ac x A).Ai;have h2:=(h.Ac x A).Fm;omega
 have h1:=If (fun x:Bc=>Cu x.Ai) 130 (s.Ac.take i) (fun x A=>G x (Zfc A));have h2:Cu (((s.Ac[i]?).elim [] Bc.Ai).take (k+1))<=130:=by
  rw[Zam D];have hm:=Zat D;have h3:=Rf (n:=s.Ac.length) (l:=(s.Ac[i].Ai).take (k+1)) (fun r F=>(h.Ac _ hm).Ai r (Zfc F));have h4:=(h.Ac _ hm).Fm;have h5:((s.Ac[i].Ai).take (k+1)).length<=5:=wQ;simp only[Option.elim];omega
 have h3:(s.Ac.take i).length<=3:=by rw[Zbo];have:=h.Fm;omega
 unfold Fv;omega
theorem P9 {α:Type} {l:List α} {n:Nat} {x:α} (h:x∈l.take n):∃i,i<n/\l[i]? =some x:=by
 obtain⟨i,A,he⟩:=Zem h;rw[Zbo]at A;refine⟨i,yE,?_⟩;rw[Zen]at he;rw[Zam yE,he]
theorem H7.Me {s:Ap} (h:H7 s) (i k:Nat) (x:Bc) (r:A7) (A:s.Ac[i]? =some x) (F:x.Ai[k]? =some r):Wp s r (Fv s i k):=by
 have G:=(Zeg.1 A).1;have hm:=(h.Ac x (Zax A)).Ai r (Zax F);refine⟨hm.fields,by have:=hm.Fm;omega,hm.Ea,fun _=>h.total i k G,?_⟩;rcases hm.A3 with⟨h1,h2⟩ | ⟨h1,h2,h3⟩
 ·have H:¬r.A3.toList=[]:=by
   have:=Tm (P9 h1).choose_spec.2;simp only[D7,Zbc,Zbe,Zic]at this;rcases this with e | e | e | e<;>rw[e,Zcp]<;>decide
  rw[if_neg H];obtain⟨j,D,he⟩:=P9 h1;refine⟨La.2 ⟨_,Zat D,?_⟩,h2⟩;have:=h.names j _ (Zam D);rw[he]at this;injection this with this;rw[this]
 rw[if_pos (by rw[h1,Zcp];rfl)];exact⟨h2,h3⟩
theorem H7.small {s:Ap} (h:H7 s):s.size<=6674:=by
 have h1:=If Bc.size 1665 s.Ac (fun x A=>(h.Ac x A).size);have h2:=h.Fm;have h3:=Ro h.An;unfold Ap.size;omega
theorem H7.Aha {s:Ap} (h:H7 s):Ahs s:=by
 have a2:=h.small;have a0:=Ro h.An;have a4:=h.Fm;have a1:=h.more;have a3:=h.Aj;have U:∀x∈s.Ac,Hm x.name:=fun x A=>by
  obtain⟨i,H,rfl⟩:=Zem A;exact Adv (Tm (h.names i _ (Zam H)))
 refine⟨⟨⟨yE,fun x A r D=>by have:=((h.Ac x A).Ai r D).size;omega,fun x A r D a F=>?_⟩,?_⟩,⟨yE,yE,fun x A r D a F=>?_⟩,yE,yE,yE,fun x A=>by have:=(h.Ac x A).Fm;omega,U,yE⟩
 ·have:=(((h.Ac x A).Ai r D).Aw a F).small
  exact⟨yE,fun p hp=>by have:=this.2.2 p hp;omega⟩
 ·intro p hp
  simp only[Ca,Zbc,Zew]at hp;rcases hp with rfl | hp | hp
  ·exact .whole ⟨yE,yE,yE,yE,yE⟩
  ·simp only[Kt,Zfb,Zfd]at hp
   obtain⟨i,H,rfl⟩:=hp;have M:=Zam H;have G:=Ux h.An i _ M;refine .var i _ M ⟨?_,G.2,fun j x V A e=>?_⟩
   ·rcases Zew.1 (Zax G.1)with h1 | h1
    ·exact Q0 h1
    exact Vt h1
   have:=Aa9 j i _ _ (Ux h.An j x A).1 G.1 e;omega
  obtain⟨i,x,A,hp⟩:=Vx hp;rw[Zac]at hp;simp only[Hb,Zbc]at hp;have J:=Zax A;rcases hp with rfl | hp
  ·refine .state i x A ⟨U x J,by have:=(h.Ac x J).Fm;omega,fun j y V hy e=>?_⟩
   have:=Adb j i _ _ (h.names j y hy) (h.names i x A) e;omega
  obtain⟨k,r,D,hp⟩:=Yl hp;rw[Zac]at hp;simp only[Jp,Zbc]at hp;have W:=(h.Ac x J).Ai r (Zax D);rcases hp with rfl | hp
  ·exact .Me i k x r A D (h.Me i k x r A D)
  obtain⟨m,a,F,hp⟩:=Abc hp;rw[Zac]at hp;simp only[Na,Zbc]at hp;have T:=W.Aw a (Zax F);rcases hp with rfl | hp
  ·exact .act i k m x r a A D F (T.ok h.An)
  simp only[Lg,Zfb,Zfd]at hp;obtain⟨n,G,rfl⟩:=hp;obtain⟨e,he,Y⟩:=T.Aq2;have O:=Zam G;exact .part i k m n x r a _ A D F O (Re.ok h.An he Y n _ O)
 have:=(((h.Ac x A).Ai r D).Aw a F).small;omega
end Go.Proofs.YtafmoofknjncpaaGreatDoor
