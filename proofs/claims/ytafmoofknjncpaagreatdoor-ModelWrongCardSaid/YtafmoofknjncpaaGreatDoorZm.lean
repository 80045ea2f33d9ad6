/- Steps that the proof that ModelWrong holds takes often. -/
import Derived.BigQuiet
import Derived.Deep.Draws
import Derived.Deep.MidRow
import Derived.Deep.QuietTactic
import Derived.Lib.Hide
import Derived.RangeFuncLeaves
import Derived.RangeFuncNested
import Derived.RangeFuncWrites
import Derived.StillTailTactics
import Derived.WalkKit
import Derived.WalkLawsBesides
import Derived.WalkSpells
import Derived.Test.YtafmoofknjncpaaGreatDoorZz
set_option linter.all false
namespace Go.Proofs.YtafmoofknjncpaaGreatDoor
open Go Go.RowKit Tryz
theorem yE {p:Prop} (h:p:=by omega):p:=h
theorem yG {p:Prop} (h:p:=by kernel_rfl):p:=h
theorem yF {p:Prop} (h:p:=by simp):p:=h
theorem yH {p:Prop} (h:p:=by decide):p:=h
theorem yL {p:Prop} (h:p:=by simp[Value.oneCell']):p:=h
theorem yJ {p:Prop} (h:p:=by simp;omega):p:=h
theorem yM {p:Prop} (h:p:=by cases e;omega):p:=h
theorem yK {p:Prop} (h:p:=by go_num):p:=h
theorem yI {p:Prop} (h:p:=by rfl):p:=h
theorem yP {p:Prop} (h:p:=by unfold maxLen;omega):p:=h
theorem yQ {p:Prop} (h:p:=by have:=U.1.1;omega):p:=h
theorem yT {p:Prop} (h:p:=by simp[Fence.wide]at h):p:=h
theorem yN {p:Prop} (h:p:=by rw[Zhg]):p:=h
theorem vF {p:Prop} (h:p:=by rw[<-bm];exact((Af _).alloc (by simp) _).alloc (by simp;omega) _):p:=h
theorem xT {p:Prop} (h:p:=by have:=aa.size;simp at this;omega):p:=h
theorem wF {p:Prop} (h:p:=by rw[<-bm];exact(Af _).alloc (by simp) _):p:=h
theorem xB {p:Prop} (h:p:=by have:=p5.out;simp;omega):p:=h
theorem vG {p:Prop} (h:p:=by have:=hv.out;exact⟨by unfold maxLen;omega,by omega⟩):p:=h
theorem wS {p:Prop} (h:p:=by have:=Tree.Co s;simp only[Tree.size]at bp;omega):p:=h
theorem xA {p:Prop} (h:p:=by have:=aa.size;omega):p:=h
theorem xH {p:Prop} (h:p:=by have:=c2.out.size;omega):p:=h
theorem wL {p:Prop} (h:p:=by rw[<-gd];exact(Af _).alloc (by simp) _):p:=h
theorem vS {p:Prop} (h:p:=by have:=Tree.D2 s _ (Zat ao);simp only[Tree.size]at bp;omega):p:=h
theorem wA {p:Prop} (h:p:=by simp[Value.oneCell',Ct.cells]):p:=h
theorem wM {p:Prop} (h:p:=by rw[k]at e;exact absurd e (by decide)):p:=h
theorem yV {p:Prop} (h:p:=by simpa using h):p:=h
theorem yS {p:Prop} (h:p:=by rw[e];rfl):p:=h
theorem xC {p:Prop} (h:p:=by have:=vg.out;omega):p:=h
theorem xL {p:Prop} (h:p:=by simp[World.cell?,al]):p:=h
theorem xM {p:Prop} (h:p:=by simp[World.cell?,bt]):p:=h
theorem wB {p:Prop} (h:p:=by rw[ft.out,mf.out];exact cj):p:=h
theorem xD {p:Prop} (h:p:=by rw[ky];kernel_rfl):p:=h
theorem xI {p:Prop} (h:p:=by have:=td.out;omega):p:=h
theorem yY {p:Prop} (h:p:=by rw[a7];decide):p:=h
theorem xU {p:Prop} (h:p:=by simp[World.frozen?,nw]):p:=h
theorem xJ {p:Prop} (h:p:=by simp[intOf];omega):p:=h
theorem vT {p:Prop} (h:p:=by rw[<-bm];exact Aa (Ae w _ 30) (Af _) (by simp)):p:=h
theorem yZ {p:Prop} (h:p:=by rw[Zaz];omega):p:=h
theorem xN {p:Prop} (h:p:=by have:=rl b U;omega):p:=h
theorem uM {p:Prop} (h:p:=by intro y hy;simp only[Zbf]at hy;subst hy;exact fun _ _=>rfl):p:=h
theorem sT {p:Prop} (h:p:=by subst bm;exact B6 304 _ rfl (w.heap.size+1) 0 rfl (wP lz) dw.out.range (by kernel_rfl) (by rw[Gl hR.out];kernel_rfl)):p:=h
theorem wC {p:Prop} (h:p:=by simp;have:=aF.out;omega):p:=h
theorem yO {p:Prop} (h:p:=by rw[ee]):p:=h
theorem wG {p:Prop} (h:p:=by rw[<-ba];exact Ae w _ _):p:=h
theorem xE {p:Prop} (h:p:=by simpa using ae):p:=h
theorem vU {p:Prop} (h:p:=by intro k a7;simp[Value.ownBlock]at a7;omega):p:=h
theorem xF {p:Prop} (h:p:=by rw[Zbl,b0];rfl):p:=h
theorem xG {p:Prop} (h:p:=by rw[<-bm];simp):p:=h
theorem xV {p:Prop} (h:p:=by have:=az.size;omega):p:=h
theorem wD {p:Prop} (h:p:=by rw[<-ba];exact Af _):p:=h
theorem wE {p:Prop} (h:p:=by simp[World.cell?,nw]):p:=h
theorem sU {p:Prop} (h:p:=by obtain⟨_,o,bx,aw⟩:=a6 _ e.symm;rw[show A.heap[w.heap.size+1]? =_ from h]at bx;cases bx;cases aw):p:=h
theorem xK {p:Prop} (h:p:=by rw[<-cr];simp):p:=h
theorem wN {p:Prop} (h:p:=by rw[Zbg (by omega)];omega):p:=h
theorem vV {p:Prop} (h:p:=by rw[vf.out,<-Zfx,dw.out,hv.out];go_num):p:=h
theorem wT {p:Prop} (h:p:=by rw[F0 ao qa.out dw.out];rfl):p:=h
theorem yX {p:Prop} (h:p:=by simp at h):p:=h
theorem vH {p:Prop} (h:p:=by have:=hv.out;simp at this;omega):p:=h
theorem xO {p:Prop} (h:p:=by rw[<-ba];simp):p:=h
theorem yU {p:Prop} (h:p:=by go_simp):p:=h
theorem wH {p:Prop} (h:p:=by rw[<-ic];exact Af _):p:=h
theorem xQ {p:Prop} (h:p:=by unfold Fc;omega):p:=h
theorem wU {p:Prop} (h:p:=by rw[<-hlen]at uq;exact uq):p:=h
theorem sV {p:Prop} (h:p:=by obtain⟨_,o,bx,aw⟩:=a6 _ e.symm;rw[show A.heap[b]? =_ from h]at bx;cases bx;cases aw):p:=h
theorem sW {p:Prop} (h:p:=by rw[<-cr];exact(((Zai _ _).alloc (Zab _) _).alloc (by simp) _).alloc (by simp;omega) _):p:=h
theorem wI {p:Prop} (h:p:=by cases e;exact Zab _):p:=h
theorem xS {p:Prop} (h:p:=by rw[<-ic];simp):p:=h
theorem uN {p:Prop} (h:p:=by have:=b0.size;unfold Ap.size at this;omega):p:=h
theorem uO {p:Prop} (h:p:=by have:=c8.size;have:=(Zbx.1 xw.out).1;omega):p:=h
theorem wV {p:Prop} (h:p:=by simp[Tree.size,Tree.Bf]):p:=h
theorem wO {p:Prop} (h:p:=by simp[Value.ownBlock]):p:=h
theorem tS {p:Prop} (h:p:=by rw[<-cr];exact Zhl bbj _ _ _ (.inr (.inl (by simp)))):p:=h
theorem tT {p:Prop} (h:p:=by rw[<-gd];exact(Zcd _ _ _ (by simp)).trans (Zhe w _)):p:=h
theorem yW {p:Prop} (h:p:=by cases e):p:=h
theorem xW {p:Prop} (h:p:=by simpa using av):p:=h
theorem xX {p:Prop} (h:p:=by simpa using ao):p:=h
theorem xY {p:Prop} (h:p:=by rw[<-gd];simp):p:=h
theorem xZ {p:Prop} (h:p:=by simpa using a7):p:=h
theorem uP {p:Prop} (h:p:=by rw[<-cr];exact c7.alloc (by omega) _):p:=h
theorem vW {p:Prop} (h:p:=by simp[Value.oneCell',B9.cells]):p:=h
theorem tU {p:Prop} (h:p:=by simp only[Zbf]at fM;subst fM;exact⟨Zab _,h4⟩):p:=h
theorem tV {p:Prop} (h:p:=by rw[Int.natCast_mul,Int.mul_comm,Zcv (by omega)]):p:=h
theorem vI {p:Prop} (h:p:=by have:=hv.out;simp;omega):p:=h
theorem sX {p:Prop} (h:p:=by simp at a7;subst a7;exact⟨fun _=>jm,fun h=>absurd h (by decide)⟩):p:=h
theorem sY {p:Prop} (h:p:=by simp at a7;subst a7;exact⟨fun _=>sx,fun h=>absurd h (by decide)⟩):p:=h
theorem sZ {p:Prop} (h:p:=by simp at cl;subst cl;exact⟨by omega,(Zdd _ _ _).same _ _ hj rfl⟩):p:=h
theorem rA {p:Prop} (h:p:=by rw[<-cr];exact Ae a8 [z0,.float .f64 b9,z2,z3,.slice bg bk z9] 118):p:=h
theorem wW {p:Prop} (h:p:=by have:=al.size;omega):p:=h
theorem wX {p:Prop} (h:p:=by have:=c8.size;omega):p:=h
theorem vJ {p:Prop} (h:p:=by simp[Region.wanted,ar]):p:=h
theorem tW {p:Prop} (h:p:=by have:=hv.out;rw[e]at this;simp at this;omega):p:=h
theorem rB {p:Prop} (h:p:=by rw[ky,<-show(wP lz).length=9 by simp[wP,eT.out.1]];exact iC.there):p:=h
theorem rC {p:Prop} (h:p:=by rw[<-cr];exact((Af _).alloc (by simp) _).alloc (by simp;omega) _):p:=h
theorem uQ {p:Prop} (h:p:=by have:=a6 0 _ rfl;rwa[Zaf]at this):p:=h
theorem wY {p:Prop} (h:p:=by have:=k1.out;omega):p:=h
theorem wZ {p:Prop} (h:p:=by have:=x2.out;omega):p:=h
theorem rD {p:Prop} (h:p:=by rw[<-cr];exact(c7.alloc (by omega) _).alloc (by simp;omega) _):p:=h
theorem uR {p:Prop} (h:p:=by rw[<-dj,<-X3];exact Ae a8 _ _):p:=h
theorem uS {p:Prop} (h:p:=by rw[<-cr,<-X4];exact Ae ad _ _):p:=h
theorem rE {p:Prop} (h:p:=by rw[<-cr];exact((Zai _ _).alloc (Zab _) _).alloc (by simp) _):p:=h
theorem vX {p:Prop} (h:p:=by have:=p2.size;simp;omega):p:=h
theorem rF {p:Prop} (h:p:=by rw[<-gd];exact((Zai _ _).alloc (Zab _) _).alloc (by simp) _):p:=h
theorem tX {p:Prop} (h:p:=by rw[show m+(j+1)=m+1+j by omega];exact h2):p:=h
theorem vA {p:Prop} (h:p:=by rw[Hd qa.out];rfl):p:=h
theorem tY {p:Prop} (h:p:=by rw[<-dj];exact(Af _).alloc (by simp) _):p:=h
theorem uT {p:Prop} (h:p:=by simpa using fun e=>y8 e.symm):p:=h
theorem vB {p:Prop} (h:p:=by simp at ae;omega):p:=h
theorem uU {p:Prop} (h:p:=by rw[Zbg (by omega)];exact bbk):p:=h
theorem vC {p:Prop} (h:p:=by simp at h2;omega):p:=h
theorem rG {p:Prop} (h:p:=by rw[show(wP lz).length=9 by simp[wP,eT.out.1]];kernel_rfl):p:=h
theorem tZ {p:Prop} (h:p:=by have:=ve.out.size;have:=w8.size;omega):p:=h
theorem vY {p:Prop} (h:p:=by simp[World.frozen?,me]):p:=h
theorem vZ {p:Prop} (h:p:=by simp[World.frozen?,fu]):p:=h
theorem vK {p:Prop} (h:p:=by simp[World.putObj]):p:=h
theorem rH {p:Prop} (h:p:=by rw[Ib];exact Lo _ _ (fun r _=>by unfold A7.size;omega)):p:=h
theorem vL {p:Prop} (h:p:=by have:=U.size;omega):p:=h
theorem uV {p:Prop} (h:p:=by have:=sg.out q e.symm;omega):p:=h
theorem sA {p:Prop} (h:p:=by rw[dj];exact Bk (Zai _ _) nd (Zab _)):p:=h
theorem uA {p:Prop} (h:p:=by rw[k8];exact iy.out.1):p:=h
theorem uB {p:Prop} (h:p:=by rw[k8];exact iy.out.2):p:=h
theorem sB {p:Prop} (h:p:=by rw[tp];exact Bk (Zai _ _) 1 (Zab _)):p:=h
theorem wQ {p:Prop} (h:p:=by rw[Zbo];omega):p:=h
theorem xP {p:Prop} (h:p:=by simp[a1]):p:=h
theorem rI {p:Prop} (h:p:=by obtain⟨_,_,_,_,bx⟩:=b0.box;exact(bx.lt lb rfl).2):p:=h
theorem rJ {p:Prop} (h:p:=by obtain⟨_,_,_,_,bx⟩:=N1.box;exact(bx.lt lb rfl).2):p:=h
theorem vM {p:Prop} (h:p:=by rw[<-eX.out];rfl):p:=h
theorem sC {p:Prop} (h:p:=by rw[Zdj,<-k7];exact List.take_left):p:=h
theorem sD {p:Prop} (h:p:=by rw[<-cr];exact Zar _ _ _ _ ck.out):p:=h
theorem uC {p:Prop} (h:p:=by rw[a6]at h1;cases h1):p:=h
theorem uD {p:Prop} (h:p:=by rw[<-cr];exact Af _):p:=h
theorem sE {p:Prop} (h:p:=by have:=bu.size;rw[ee]at this;omega):p:=h
theorem wJ {p:Prop} (h:p:=by simp[intOf]):p:=h
theorem vD {p:Prop} (h:p:=by simpa using h1):p:=h
theorem sF {p:Prop} (h:p:=by unfold Addr.add;split<;>simp_all):p:=h
theorem uW {p:Prop} (h:p:=by rw[<-gh];exact Zhe bd _):p:=h
theorem sG {p:Prop} (h:p:=by rw[tc.out,bi0.out];exact ba7.out):p:=h
theorem uX {p:Prop} (h:p:=by injection e with e;omega):p:=h
theorem uE {p:Prop} (h:p:=by have:=p2.size;omega):p:=h
theorem uF {p:Prop} (h:p:=by have:=bu.size;omega):p:=h
theorem uG {p:Prop} (h:p:=by have:=e5.size;omega):p:=h
theorem sH {p:Prop} (h:p:=by simp only[Tree.size]at bp;omega):p:=h
theorem sI {p:Prop} (h:p:=by rw[<-bm,<-Xa];exact Ae ag _ _):p:=h
theorem sJ {p:Prop} (h:p:=by rw[<-dj];exact Kv (G4 _ rfl) _):p:=h
theorem sK {p:Prop} (h:p:=by rw[<-Zbt a v u h2];exact he.2):p:=h
theorem uH {p:Prop} (h:p:=by simpa using ae.2.2):p:=h
theorem sL {p:Prop} (h:p:=by rw[ft.out];have:=biz.out;omega):p:=h
theorem sM {p:Prop} (h:p:=by have:=(ma.lt b e.symm).2;omega):p:=h
theorem sN {p:Prop} (h:p:=by rw[<-dj];exact G4 _ (by simp)):p:=h
theorem wK {p:Prop} (h:p:=by rw[h5];rfl):p:=h
theorem uY {p:Prop} (h:p:=by rw[Tree.Dx]at a7;omega):p:=h
theorem sO {p:Prop} (h:p:=by rw[zd.out];simp[maxLen];omega):p:=h
theorem vN {p:Prop} (h:p:=by simpa using a6):p:=h
theorem vO {p:Prop} (h:p:=by simpa using cf):p:=h
theorem uZ {p:Prop} (h:p:=by rw[ky];exact pe.there):p:=h
theorem sP {p:Prop} (h:p:=by have:=(a6 i e.symm).1;omega):p:=h
theorem sQ {p:Prop} (h:p:=by have:=sg.out _ e.symm;omega):p:=h
theorem tA {p:Prop} (h:p:=by simp[Hn,dm,cd,et,j1]):p:=h
theorem tB {p:Prop} (h:p:=by rw[<-dj];exact Af _):p:=h
theorem tC {p:Prop} (h:p:=by rw[<-bm];exact Af _):p:=h
theorem uI {p:Prop} (h:p:=by rw[Zhg];exact na):p:=h
theorem tD {p:Prop} (h:p:=by have:=be1.size;omega):p:=h
theorem wR {p:Prop} (h:p:=by rw[b0];rfl):p:=h
theorem sR {p:Prop} (h:p:=by rw[Zcy _ (by omega)];omega):p:=h
theorem sS {p:Prop} (h:p:=by rw[<-cr];exact Ao _ _ _ _):p:=h
theorem vP {p:Prop} (h:p:=by rw[ct];decide):p:=h
theorem tE {p:Prop} (h:p:=by have:=bj.size;omega):p:=h
theorem tF {p:Prop} (h:p:=by have:=um.size;omega):p:=h
theorem tG {p:Prop} (h:p:=by have:=fe.size;omega):p:=h
theorem uJ {p:Prop} (h:p:=by rw[ee];exact np):p:=h
theorem tH {p:Prop} (h:p:=by have:=hj _ h;omega):p:=h
theorem tI {p:Prop} (h:p:=by have:=zh.out;omega):p:=h
theorem vQ {p:Prop} (h:p:=by rw[ee];omega):p:=h
theorem tJ {p:Prop} (h:p:=by have:=I.size;omega):p:=h
theorem tK {p:Prop} (h:p:=by have:=aF.out;omega):p:=h
theorem tL {p:Prop} (h:p:=by rw[<-dj];simp[X3]):p:=h
theorem tM {p:Prop} (h:p:=by rw[<-cr];simp[X4]):p:=h
theorem tN {p:Prop} (h:p:=by simp[maxLen];omega):p:=h
theorem uK {p:Prop} (h:p:=by simpa using jy):p:=h
theorem uL {p:Prop} (h:p:=by simp[Cc.plain]):p:=h
theorem vE {p:Prop} (h:p:=by rw[ky];rfl):p:=h
theorem tO {p:Prop} (h:p:=by rw[q8.out,H3.out]):p:=h
theorem tP {p:Prop} (h:p:=by rw[hlen];exact Lt):p:=h
theorem tQ {p:Prop} (h:p:=by rw[ik];kernel_rfl):p:=h
theorem tR {p:Prop} (h:p:=by simp[wP,eT.out.1]):p:=h
theorem vR {p:Prop} (h:p:=by simp[<-k7]):p:=h
theorem zL {a:Type} (x:a):∃y,x=y:=⟨x,rfl⟩
structure Zh (q:Prop):Prop where
 q:q
variable {p q:Prop}
theorem Z00 (k:q) (h:Zh q->p:=by
 intro Zq;refine Z2m ?_;refine Z2m ?_;refine Ad (fun K J=>?_);refine Z42 ?_;clear J K;exact Zq.1):p:=h ⟨k⟩
theorem Z01 (k:q) (h:Zh q->p:=by
 intro Zq;refine Z2m ?_;refine Ad (fun K J=>?_);refine Z42 ?_;clear J K;exact Zq.1):p:=h ⟨k⟩
theorem Z02 (k:q) (h:Zh q->p:=by
 intro Zq;refine Ad (fun K J=>?_);refine Z2n ?_;clear J K;exact Zq.1):p:=h ⟨k⟩
theorem Z03 (k:q) (h:Zh q->p:=by
 intro Zq;refine Z3Z ?_;refine Ah (fun K J=>?_);refine Z2n ?_;clear J K;exact Zq.1):p:=h ⟨k⟩
theorem Z04 (k:q) (h:Zh q->p:=by
 intro Zq;refine Ah (fun K J=>?_);refine Z2n ?_;clear J K;exact Zq.1):p:=h ⟨k⟩
theorem Z05 (h:p:=by
 rcases a6 with e | ⟨b,o,rfl,fr,c5⟩
 ·rw[Zbr]at e;rw[e]at fh;simp at fh
 have jC:∀i (h:i<l.length),w.rangeAt b (o+i) [Value.int .u8 l[i].toNat]:=fun i h=>by
  have:=(c5 i yV).1;rw[Zbh,Zba]at this;exact this
 clear c5;have cl:Ls l=(l[p]'yE).toNat%40:=by simp[Ls,fh]
 have d0:=jC p yE 0 _ rfl;simp only[Zaf]at d0;generalize a1:l[p]'yE=x at d0 cl;have ha:=Zhb x;clear a1;generalize p7:Ls l=E at cl|-;have n3:=Zaa p7;have k1:=Zaa fh;have ho:=Zaa jC;clear p7 jC;go_enter func6,ntmps6
 go_wp2_with fail
 have y0:((x.toNat:Int)%40)=(E:Int):=by rw[cl];simp
 rw[y0];clear cl y0 d0;have c0:=Zai w w;go_loopw [6,30] (fun u v wr=>∃(i:Nat),i<=p+1/\v=.int .i64 i/\Au Hw w 55 2 wr (Gb E (l.take i)) u/\Below w w wr) (fun _ v _=>p+1 - (intOf v).toNat)
 case atStart=>exact⟨0,Zap _,rfl,Au.nil Hw w w 55 2,c0⟩
 case round=>
  obtain⟨i,ae,rfl,c6,U⟩:=hrel;obtain⟨e6,gc,rfl,-⟩:=c6.shape;have hlen:(Gb E (l.take i)).length=i:=by rw[Po,Zbo,k1.out];omega
  by_cases ao:i<p+1
  ·have j3:(i:Int) <p+1:=by omega
   have xd:i<l.length:=by rw[k1.out];exact ao
   have d0:=Aa (ho.out i xd) U yE 0 _ rfl;simp only[Zaf]at d0;have ft:=Zaa (Ry E l i xd);have p3:=Zhb l[i];generalize l[i]=y at d0 ft p3;have hw:=U.size;have h63:i+1<=maxLen/\(i+1)*2<=140737488355328:=⟨yP,yE⟩;have iy:=Zaa h63;clear h63;generalize yx:Gb E (l.take i)=dp at ft c6 hlen;subst hlen;by_cases dm:dp=E
   ·have mf:=Zaa (show Hn E dp y=⟨3,0⟩from by simp[Hn,dm])
    subst dm;go_wp2_with (at_builtin;go_loud (refine Am Hw.Ab rfl _ _ 32 rfl w.heap.size 55 2 2 D5 Ed yH _ _ rfl c6 (⟨3,0⟩:Ct) (Ct.cells ⟨3,0⟩) rfl yF rfl rfl wA iy.out.1 iy.out.2 yE ?_;intro ak ax ag cj jt al i2 ek _))
    exact Z2F
   have bjb:((dp.length:Int)==E)=false:=by simp;omega
   by_cases cd:E<dp
   ·have mf:=Zaa (show Hn E dp y=⟨2,0⟩from by simp[Hn,dm,cd])
    have bu2:(E:Int) <dp.length:=yE;exact Z3D
   have bu2:¬((E:Int) <dp.length):=by omega
   by_cases et:170<=y
   ·have mf:=Zaa (show Hn E dp y=⟨2,0⟩from by simp[Hn,dm,et])
    have bu3:(170:Int)<=y.toNat:=by have:=Zgy.1 et;simp at this;omega
    clear et;exact Z3D
   have bu3:¬((170:Int)<=y.toNat):=by intro h;exact et (Zgy.2 yJ)
   by_cases j1:160<=y
   ·have mf:=Zaa (show Hn E dp y=⟨1,y*29+7⟩from tA)
    have bu4:(160:Int)<=y.toNat:=by have:=Zgy.1 j1;simp at this;omega
    clear et j1;have hv:=Zaa (show((y.toNat:Int)*29+7)%256=((y*29+7:UInt8).toNat:Int)from by rw[Zgz,UInt8.toNat_mul];simp);go_wp2_with (at_builtin;try rw[hv.out];go_loud (refine Am Hw.Ab rfl _ _ 32 rfl w.heap.size 55 2 2 D5 Ed yH _ _ rfl c6 (⟨1,y*29+7⟩:Ct) (Ct.cells ⟨1,y*29+7⟩) rfl yF rfl rfl wA iy.out.1 iy.out.2 yE ?_;intro ak ax ag cj jt al i2 ek _))
    exact Z2F
   have mf:=Zaa (show Hn E dp y=⟨1,97+y%3⟩from tA);have bu4:¬((160:Int)<=y.toNat):=by intro h;exact j1 (Zgy.2 yJ)
   clear et j1;have hv:=Zaa (show(97:Int)+(y.toNat:Int)%3=((97+y%3:UInt8).toNat:Int)from by rw[Zgz,UInt8.toNat_mod];simp;omega);go_wp2_with (at_builtin;try rw[hv.out];go_loud (refine Am Hw.Ab rfl _ _ 32 rfl w.heap.size 55 2 2 D5 Ed yH _ _ rfl c6 (⟨1,97+y%3⟩:Ct) (Ct.cells ⟨1,97+y%3⟩) rfl yF rfl rfl wA iy.out.1 iy.out.2 yE ?_;intro ak ax ag cj jt al i2 ek _))
   exact Z2F
  obtain rfl:i=p+1:=by omega
  have fe:¬((p:Int)+1<p+1):=yE;go_wp2_with fail
  go_ret;rw[show l.take (p+1)=l from by rw[<-k1.out];exact Zbk]at c6 hlen;have bl:=c6.rowsOf Ct.cells (fun _ _ _ _ h=>h) rfl;obtain⟨cpo,cpp,pr,blm⟩:=c6.shape;exact⟨e6,gc,_,by rw[hlen];rfl,rfl,bl,by cases pr;exact blm,U⟩):p:=h
theorem Z06 (h:p:=by
 by_cases mg:B=0
 ·have bux:((B:Int) != 0)=false:=by simp[mg]
  obtain⟨r,a8,k7,-,q0,aa,oz⟩:=R6 .quo (by simp[J1]) (floatOfInt .f64 (IntKind.i8.wrap M)) 4616189618054758400 ay;have bd8:=Aa yi.out aa yE 2 _ rfl;simp only[Zac]at bd8;have cf:=ne_self r q0;clear mg;cases ra:Gq r
  ·rw[ra]at cf
   have bcw:=Zaa ra;clear ra;go_wp2_with fail
   refine Z3X ?_;intro ad af fx;have hI:A2 Cz (w+1) ad (fun b=>b< (ad).heap.size/\some b≠(Value.slice e6 q gc).ownBlock) (.node ⟨8,r,⟨#[]⟩,0⟩ []) [.int .u8 8,.float .f64 r,zC,zE,zH]:=Tree.A6.shut (E:=Df.cells) (l:=⟨8,r,⟨#[]⟩,0⟩) (Zap _) (.inl rfl);refine Z2W ?_;intro ht dv hs bp;clear hI dv;go_wp2_with (at_builtin;go_loud (refine Am (A2.Ab Cz.Ab _) rfl _ _ 116 rfl (w.heap.size+1) 118 5 64 Ep Eu yH p _ rfl hs.out _ _ rfl yE ht.out rfl yL im.out.1 im.out.2 yE ?_;intro ak ax ag cj jt al i2 ek _))
   go_roundw
   case rel=>exact⟨i+1,p++[(.node ⟨8,r,⟨#[]⟩,0⟩ [])],yE,yK,cj,dw.out.leaf (Hv _ q0 (by simp[D1,bcw.out])) rfl,c2.out.trans ((fx.mono yE).trans (al.mono yE))⟩
   case measure=>simp[intOf];omega
  exact Z2r
 have bux:((B:Int) != 0)=true:=by simp[mg]
 obtain⟨r,a8,k7,-,q0,aa,oz⟩:=R6 .quo (by simp[J1]) (floatOfInt .f64 (IntKind.i8.wrap M)) 4616189618054758400 ay;have bd8:=Aa yi.out aa yE 2 _ rfl;simp only[Zac]at bd8;have cf:=ne_self B bdd;clear mg;cases ra:Gq B
 ·rw[ra]at cf
  have bcw:=Zaa ra;clear ra;go_wp2_with fail
  refine Z3X ?_;intro ad af fx;have hI:A2 Cz (w+1) ad (fun b=>b< (ad).heap.size/\some b≠(Value.slice e6 q gc).ownBlock) (.node ⟨8,B,⟨#[]⟩,0⟩ []) [.int .u8 8,.float .f64 B,zC,zE,zH]:=Tree.A6.shut (E:=Df.cells) (l:=⟨8,B,⟨#[]⟩,0⟩) (Zap _) (.inl rfl);refine Z2W ?_;intro ht dv hs bp;clear hI dv;go_wp2_with (at_builtin;go_loud (refine Am (A2.Ab Cz.Ab _) rfl _ _ 116 rfl (w.heap.size+1) 118 5 64 Ep Eu yH p _ rfl hs.out _ _ rfl yE ht.out rfl yL im.out.1 im.out.2 yE ?_;intro ak ax ag cj jt al i2 ek _))
  go_roundw
  case rel=>exact⟨i+1,p++[(.node ⟨8,B,⟨#[]⟩,0⟩ [])],yE,yK,cj,dw.out.leaf (Hv _ bdd (by simp[D1,bcw.out])) rfl,c2.out.trans ((fx.mono yE).trans (al.mono yE))⟩
  case measure=>simp[intOf];omega
 exact Z2r):p:=h
theorem Z07 (h:p:=by
 rcases(show k=0\/∃p:Nat,(k:Int)=(p:Int)+1 by rcases k with _ | p;exact .inl rfl;exact .inr ⟨p,yF⟩)with rfl | ⟨p,od⟩
 ·obtain⟨q,b5,po⟩:∃q:Nat,(Y:Int) / 8%5=(q:Int)/\q<5:=⟨Y / 8%5,yE,yE⟩
  have T0:(q:Int) <5:=yE;obtain⟨s,b0⟩:∃s,Fx[q]? =some s:=⟨_,Zam (show q<Fx from po)⟩;have j7:s∈Fx:=Zax b0;have L5:=Ae wr (Fx.map Value.string) 9 q (.string s) xF;simp only[Fx,Zbi,Zeu,Zac]at L5;clear b0;refine Z3R ?_;intro bt;have hI:C5 Bz ln (w+1) (wr.alloc (.cells [Value.string ⟨#[97]⟩,.string ⟨#[45]⟩,.string ⟨#[97,98,32]⟩,.string ⟨#[0,255]⟩,.string ⟨#[49,50]⟩].toArray 9)) (fun b=>b< (wr.alloc (.cells [Value.string ⟨#[97]⟩,.string ⟨#[45]⟩,.string ⟨#[97,98,32]⟩,.string ⟨#[0,255]⟩,.string ⟨#[49,50]⟩].toArray 9)).heap.size/\some b≠(Value.slice e6 0 gc).ownBlock) ⟨1,s,0,Dd⟩ [.int .u8 1,.string s,zE,zJ,zD,zC,zE,zH]:=⟨_,rfl,Tree.A6.shut (E:=Df.cells) (l:=⟨0,0,⟨#[]⟩,0⟩) (Zap _) (.inl rfl)⟩;refine Z2K ?_;intro ht dv hs bp;clear hI dv;go_wp2_with (at_builtin;go_loud (refine Am (C5.Ab Bz.Ab _ _) rfl _ _ 115 rfl (w.heap.size+1) 124 8 96 Ff Fz yH bw _ rfl hs.out _ _ rfl yF ht.out rfl yL im.out.1 im.out.2 yE ?_;intro ak ax ag cj jt al i2 ek _))
  go_roundw
  case rel=>exact⟨i+1,bw++[⟨1,s,0,Dd⟩],yE,yK,wC,cj,Fa sh.out (.inl ⟨rfl,j7,rfl,rfl⟩),vz.out.snoc (fun _ q h=>by rw[Zeo.1 bH.out.symm]at h;simp at h),c2.out.trans ((bt.mono yE).trans (al.mono yE))⟩
  case measure=>simp[intOf];omega
 obtain⟨g,yl,aj,jx,nl,e2⟩:=(ff.out.at).resolve_left (fun e=>by have:=bH.out;rw[e]at this;simp at this;omega);injection aj with bz bo gj;subst bz gj;have cuk:p<5:=yE;obtain⟨cs,dn,gk,⟨es,rfl,-⟩,-⟩:=e2 p yE;have bjm:=gk 0 _ rfl;simp only[Zaf]at bjm;have kZ:bw[bw.length - 1]? =some (bw[p]'yE):=by rw[show bw.length - 1=p from yE];exact Zam _
 generalize bw[p]=bc at bjm kZ;have bt3:=Zaa kZ;clear kZ e2 dn gk bo;by_cases gv:bc.kind=1
 ·have ya:((bc.kind.toNat:Int) != 1)=false:=by rw[gv];rfl
  exact Z39
 have ya:((bc.kind.toNat:Int)==1)=false:=by
  rw[Zaz];intro e;exact gv (Zha.1 (show bc.kind.toNat=1 from yE))
 have ct6:¬((bc.kind.toNat:Int)=1):=by simpa using ya
 have bbm:((bc.kind.toNat:Int) != 1)=true:=by simp[bne,ya]
 obtain⟨q,b5,po⟩:∃q:Nat,(Y:Int) / 8%5=(q:Int)/\q<5:=⟨Y / 8%5,yE,yE⟩;have T0:(q:Int) <5:=yE;obtain⟨s,b0⟩:∃s,Fx[q]? =some s:=⟨_,Zam (show q<Fx from po)⟩;have j7:s∈Fx:=Zax b0;have L5:=Ae wr (Fx.map Value.string) 9 q (.string s) xF;simp only[Fx,Zbi,Zeu,Zac]at L5;clear b0;refine Z3R ?_;intro bt;have hI:C5 Bz ln (w+1) (wr.alloc (.cells [Value.string ⟨#[97]⟩,.string ⟨#[45]⟩,.string ⟨#[97,98,32]⟩,.string ⟨#[0,255]⟩,.string ⟨#[49,50]⟩].toArray 9)) (fun b=>b< (wr.alloc (.cells [Value.string ⟨#[97]⟩,.string ⟨#[45]⟩,.string ⟨#[97,98,32]⟩,.string ⟨#[0,255]⟩,.string ⟨#[49,50]⟩].toArray 9)).heap.size/\some b≠(Value.slice (some ⟨g,0,none⟩) k gc).ownBlock) ⟨1,s,0,Dd⟩ [.int .u8 1,.string s,zE,zJ,zD,zC,zE,zH]:=⟨_,rfl,Tree.A6.shut (E:=Df.cells) (l:=⟨0,0,⟨#[]⟩,0⟩) (Zap _) (.inl rfl)⟩;refine Z2K ?_;intro ht dv hs bp;clear hI dv;go_wp2_with (at_builtin;go_loud (refine Am (C5.Ab Bz.Ab _ _) rfl _ _ 115 rfl (w.heap.size+1) 124 8 96 Ff Fz yH bw _ rfl hs.out _ _ rfl yF ht.out rfl yL im.out.1 im.out.2 yE ?_;intro ak ax ag cj jt al i2 ek _))
 go_roundw
 case rel=>exact⟨i+1,bw++[⟨1,s,0,Dd⟩],yE,yK,wC,cj,Fa sh.out (.inl ⟨rfl,j7,rfl,rfl⟩),vz.out.snoc (fun _ q h=>by rw[bt3.out]at h;cases h;exact gv),c2.out.trans ((bt.mono yE).trans (al.mono yE))⟩
 case measure=>simp[intOf];omega):p:=h
theorem Z08 (h:p:=by
 obtain⟨a2,cd,sr,-,pr⟩:=b8.open;simp only[Cc.cells,Zas,Zau,Zdm,Zhd,Zih,Zhm]at sr;obtain⟨rfl,rfl⟩:=sr;obtain rfl | ⟨b,o,rfl,fr,hx⟩:=pr
 ·simp at ao
 obtain⟨dk,a6,og⟩:=hx i ao;have p2:Below w w wr:=aa.trans (U.mono aa.size);have xe:=cb s[i] (Zat ao) dk (wr.alloc (.cells dk.toArray 43)) n vX ((og.below (p2.mono ah)).below ((Af _).mono uE));replace a6:=Aa a6 p2 yE;obtain⟨a3,et,rfl⟩:=Bo.shape og;have d0:=a6 0 _ rfl;have d1:=a6 1 _ rfl;have d2:=a6 2 _ rfl;have d3:=a6 3 _ rfl;have d4:=a6 4 _ rfl;have d5:=a6 5 _ rfl;have d6:=a6 6 _ rfl;have d7:=a6 7 _ rfl;simp only[Zaf]at d0;have lH:=N4 s[i];have j9:=Hu s i ao;have vf:=Zaa j9;clear j9 hx a6 cb;generalize b5:s[i].Da=q at xe lH;have hv:=Zaa b5;clear b5;have ox:(q:Int)<=10001:=yE;go_wp2_with fail
 refine xe.mono ?_;rintro e ag ⟨rfl,al⟩;have n7:Below a8 a8 ag:=(U.alloc xm _).trans (al.mono yJ);clear al xe;go_wp2_with fail
 go_roundw
 case rel=>exact⟨i+1,yE,yK,vV,n7⟩
 case measure=>simp[intOf];omega):p:=h
theorem Z09 (k:q) (h:Zh q->p:=by
 intro Zq;simp only[Bi,Zak,Zan,Zah,Zad,Zae,Zaj];exact Zq.1):p:=h ⟨k⟩
theorem Z0a (h:p:=by
 by_cases hu:u*2<=16
 ·have xl:(u:Int)*2<=16:=by omega
  have hC:=Hp (.node ⟨e1,t0,t1,t2,t3,dy,gg⟩ j0) 2 (-1) _ bd _ (fun b U=>yQ) cU.out;have c3:=Zaa hC;clear hC;go_wp2_with fail
  refine Z54 ?_;rintro e ad ⟨cx,rfl,e7,af⟩;have fx:Below ay ay ad:=c9.trans (af.mono yE);have dv:=ff.out.below (A2.Ab B2.Ab _) fx (Zab _);have hy:A2 B2 (w+1) ad (fun b=>b<ad/\b≠jb) (.node ⟨5,0,0,0,0,2,(-1)⟩ [(.node ⟨e1,t0,t1,t2,t3,dy,gg⟩ j0)]) cx:=Tree.A6.mono e7 fun b U=>by
   exact Z2Y
  obtain⟨er,cp,fc⟩:=C3 e7;have rn:cx=[.int .u8 5,.int .u64 0,.int .u64 0,.int .u64 0,.int .u64 0,.int .i64 2,.int .i64 (-1),.slice er 1 cp]:=fc;subst rn;clear fc;refine Z2w ?_;intro ck hs o6 bp;have kt:=dw.out.My yE cX.out 2 (-1) xQ 2 rfl yE hu;have tb:=Zaa kt;clear dv hy e7 kt;go_wp2_with (refine Zil rfl 43 _ _ rfl _ _ _ rfl rfl ?_ ?_ ?_ ?_)
  ·exact ck.out
  ·first | kernel_rfl | exact Fg
  ·simp[Value.oneCell']
  have cj:=Au.F5 (A2.Ab B2.Ab _) hs.out (cs:=[.int .u8 5,zI,zI,zI,zI,.int .i64 2,zG,.slice er 1 cp]) rfl o6.out;rw[k7]at cj;have cm:=Ao ad jb [.int .u8 5,zI,zI,zI,zI,.int .i64 2,zG,.slice er 1 cp] (bc*8);generalize ad.setCells jb (bc*8) [.int .u8 5,.int .u64 0,.int .u64 0,.int .u64 0,.int .u64 0,.int .i64 2,.int .i64 (-1),.slice er 1 cp]=ag at cj cm|-;go_roundw
  case rel=>exact⟨i+1,aq++[(.node ⟨5,0,0,0,0,2,(-1)⟩ [(.node ⟨e1,t0,t1,t2,t3,dy,gg⟩ j0)])],u*2,g,yE,Ej yE,Ej yE,Ej yE,cj,tb.out,(c2.out.trans (fx.mono yE)).grown cm xH (fun r e=>yM)⟩
  case measure=>simp[intOf];omega
 have xl:¬((u:Int)*2<=16):=by omega
 exact Z2X):p:=h
theorem Z0b (h:p:=by
 go_wp2_with fail
 refine hr.out.mono ?_;rintro e a8 ⟨rfl,aa⟩;go_wp2_with fail
 go_ret;exact⟨rfl,c2.out.trans (aa.mono c2.out.size)⟩):p:=h
theorem Z0c (h:p:=by
 by_cases hu:u*1<=16
 ·have xl:(u:Int)*1<=16:=by omega
  have hC:=Hp (.node ⟨e1,t0,t1,t2,t3,dy,gg⟩ j0) 1 (-1) _ bd _ (fun b U=>yQ) cU.out;have c3:=Zaa hC;clear hC;go_wp2_with fail
  refine Z54 ?_;rintro e ad ⟨cx,rfl,e7,af⟩;have fx:Below ay ay ad:=c9.trans (af.mono yE);have dv:=ff.out.below (A2.Ab B2.Ab _) fx (Zab _);have hy:A2 B2 (w+1) ad (fun b=>b<ad/\b≠jb) (.node ⟨5,0,0,0,0,1,(-1)⟩ [(.node ⟨e1,t0,t1,t2,t3,dy,gg⟩ j0)]) cx:=Tree.A6.mono e7 fun b U=>by
   exact Z2Y
  obtain⟨er,cp,fc⟩:=C3 e7;have rn:cx=[.int .u8 5,.int .u64 0,.int .u64 0,.int .u64 0,.int .u64 0,.int .i64 1,.int .i64 (-1),.slice er 1 cp]:=fc;subst rn;clear fc;refine Z2w ?_;intro ck hs o6 bp;have kt:=dw.out.My yE cX.out 1 (-1) xQ 1 rfl yE hu;have tb:=Zaa kt;clear dv hy e7 kt;go_wp2_with (refine Zil rfl 43 _ _ rfl _ _ _ rfl rfl ?_ ?_ ?_ ?_)
  ·exact ck.out
  ·first | kernel_rfl | exact Fg
  ·simp[Value.oneCell']
  have cj:=Au.F5 (A2.Ab B2.Ab _) hs.out (cs:=[.int .u8 5,zI,zI,zI,zI,zF,zG,.slice er 1 cp]) rfl o6.out;rw[k7]at cj;have cm:=Ao ad jb [.int .u8 5,zI,zI,zI,zI,zF,zG,.slice er 1 cp] (bc*8);generalize ad.setCells jb (bc*8) [.int .u8 5,.int .u64 0,.int .u64 0,.int .u64 0,.int .u64 0,.int .i64 1,.int .i64 (-1),.slice er 1 cp]=ag at cj cm|-;go_roundw
  case rel=>exact⟨i+1,aq++[(.node ⟨5,0,0,0,0,1,(-1)⟩ [(.node ⟨e1,t0,t1,t2,t3,dy,gg⟩ j0)])],u*1,g,yE,Ej yE,Ej yE,Ej yE,cj,tb.out,(c2.out.trans (fx.mono yE)).grown cm xH (fun r e=>yM)⟩
  case measure=>simp[intOf];omega
 exact absurd (show u*1<=16 from yE) hu):p:=h
theorem Z0d (h:p:=by
 have bh:=Aa h3 ab.1 hk 1 _ rfl;have cq:=Aa h3 ab.1 hk 2 _ rfl;have ed:=Aa h3 ab.1 hk 3 _ rfl;have ez:=Aa h3 ab.1 hk 4 _ rfl;have ja:=Aa h3 ab.1 hk 5 _ rfl;have jh:=Aa h3 ab.1 hk 6 _ rfl;have jd:=Aa h3 ab.1 hk 7 _ rfl;have nt:=Aa h3 ab.1 hk 8 _ rfl;have oi:=Aa h3 ab.1 hk 9 _ rfl;have vo:=Aa h3 ab.1 hk 10 _ rfl;have vp:=Aa h3 ab.1 hk 11 _ rfl;have vq:=Aa h3 ab.1 hk 12 _ rfl;have sc:=Aa h3 ab.1 hk 13 _ rfl;have vr:=Aa h3 ab.1 hk 14 _ rfl;have vt:=Aa h3 ab.1 hk 15 _ rfl;exact Z3n):p:=h
theorem Z0e (h:p:=by
 have hC:=Ob x.Ay _ bd n yE bt6.out (.node ⟨e1,kg,dy,gq⟩ dh) _ Cj hm rz _ (fun b U=>U.2) bol.out;have c3:=Zaa hC;clear hC;go_wp2_with fail
 refine Z54 ?_;rintro e b3 ⟨bw,v,rfl,baz,fR,bj⟩;have bb0:=baz;obtain⟨bn,pt,rfl,-⟩:=baz;have l9:=bj.size;have ck:=Zaa (Dp ((bj.block (w+1) yE).trans bco.out));have x6:C2 b3 (fun b=>w+2<=b/\b<b3) ⟨1,⟨#[]⟩,bw,Dd⟩ [.int .u8 1,zC,.slice bn bw pt,zJ,zD,zC,zE,zH]:=⟨.slice bn bw pt,_,rfl,Al.Ab Bz.Ab |>.wide bb0 (fun b U=>by have:=U.2;rcases U.1 with h | h<;>omega),Tree.A6.shut (E:=Df.cells) (l:=⟨0,0,⟨#[]⟩,0⟩) (Zap _) (.inl rfl)⟩;have bcv:=Zaa x6;have bie:=Zaa fR;have eS:=Zaa bj;clear bb0 x6 fR;go_wp2_with (refine Zil rfl 120 _ _ rfl _ _ _ rfl rfl ?_ ?_ ?_ ?_)
 ·exact ck.out
 ·first | kernel_rfl | exact Xr
 ·simp[Value.oneCell']
 have nk:=zc.out.trans (eS.out.mono yE);have cm:=Ao b3 (w+1) [.int .u8 1,zC,.slice bn bw pt,zJ,zD,zC,zE,zH] 0;have gp:=Zar b3 (w+1) 0 [.int .u8 1,zC,.slice bn bw pt,zJ,zD,zC,zE,zH] ck.out;generalize b3.setCells (w+1) 0 [.int .u8 1,.string ⟨#[]⟩,.slice bn bw pt,.int .u8 0,.float .f64 0,.string ⟨#[]⟩,.int .i64 0,.slice none 0 0]=lf at cm gp|-;have eL:=cm.size;have fV:=C2.Ab.block bcv.out (fun b U=>cm.block b U.2 yJ);refine Zho (Aq rfl _ _ _ _ _ rfl gp yG yG) rfl ⟨_,[.int .u8 1,zC,.slice bn bw pt,zJ,zD,zC,zE,zH],rfl,C2.Ab.wide fV (fun b U=>⟨yE,yE⟩),⟨_,q9.out.1,q9.out.2,.inl ⟨rfl,rfl,rfl,bie.out⟩⟩,nk.grown cm nk.size (fun r e=>yM)⟩):p:=h
theorem Z0f (h:p:=by
 by_cases cu0:0<=Cj
 ·obtain⟨M,ka,kA,hZ⟩:∃M:Int,min Cj 9=M/\M<=Cj/\M<=9:=⟨min Cj 9,rfl,yE,yE⟩
  have cqv:0<=M:=yE;have cqw:¬(M+1=0):=yE;have blu:Int.emod ((Y:Int) / 8) (M+1) <M+1:=Zcs _ yE;obtain⟨G,bgc,sl,cq7⟩:∃G:Int,(Y:Int) / 8%(M+1)=G/\0<=G/\G<M+1:=⟨_,rfl,Int.emod_nonneg _ yE,Zcs _ yE⟩;have cq9:Int.tmod ((Y:Int) / 8) (M+1)=G:=by rw[Zbg yE];exact bgc
  have bt:Below wr wr wr:=Zai _ _;have hI:C5 Bz ln (w+1) (wr) (fun b=>b< (wr).heap.size/\some b≠(Value.slice e6 k gc).ownBlock) ⟨3,⟨#[]⟩,G,Dd⟩ [.int .u8 3,zC,G,zJ,zD,zC,zE,zH]:=⟨_,rfl,Tree.A6.shut (E:=Df.cells) (l:=⟨0,0,⟨#[]⟩,0⟩) (Zap _) (.inl rfl)⟩;refine Z2K ?_;intro ht dv hs bp;clear hI dv;go_wp2_with (at_builtin;go_loud (refine Am (C5.Ab Bz.Ab _ _) rfl _ _ 115 rfl (w.heap.size+1) 124 8 96 Ff Fz yH bw _ rfl hs.out _ _ rfl yF ht.out rfl yL im.out.1 im.out.2 yE ?_;intro ak ax ag cj jt al i2 ek _))
  go_roundw
  case rel=>exact⟨i+1,bw++[⟨3,⟨#[]⟩,G,Dd⟩],yE,yK,wC,cj,Fa sh.out (.inr (.inr (.inl ⟨rfl,rfl,sl,show G<=9 from yE,show G<=Cj from yE,rfl⟩))),vz.out.snoc (fun h=>yX),c2.out.trans ((bt.mono yE).trans (al.mono yE))⟩
  case measure=>simp[intOf];omega
 exact Z39):p:=h
theorem Z0g (h:p:=by
 obtain⟨q,b5,po⟩:∃q:Nat,(Y:Int) / 8%2=(q:Int)/\q<2:=⟨Y / 8%2,yE,yE⟩;have T0:(q:Int) <2:=yE;obtain⟨s,b0⟩:∃s,Dq[q]? =some s:=⟨_,Zam (show q<Dq from po)⟩;have j7:s∈Dq:=Zax b0;have L5:=Ae wr (Dq.map Value.string) 9 q (.string s) xF;simp only[Dq,Zbi,Zeu,Zac]at L5;clear b0;have bt:Below wr wr (wr.alloc (.cells (List.toArray [Value.string ⟨#[115]⟩,.string ⟨#[116]⟩]) 9)):=Af _;have hI:C5 Bz ln (w+1) (wr.alloc (.cells (List.toArray [Value.string ⟨#[115]⟩,.string ⟨#[116]⟩]) 9)) (fun b=>b< (wr.alloc (.cells (List.toArray [Value.string ⟨#[115]⟩,.string ⟨#[116]⟩]) 9)).heap.size/\some b≠(Value.slice e6 k gc).ownBlock) ⟨2,s,0,Dd⟩ [.int .u8 2,.string s,zE,zJ,zD,zC,zE,zH]:=⟨_,rfl,Tree.A6.shut (E:=Df.cells) (l:=⟨0,0,⟨#[]⟩,0⟩) (Zap _) (.inl rfl)⟩;refine Z2K ?_;intro ht dv hs bp;clear hI dv;go_wp2_with (first | (go_at_call 21;refine(O0 _).mono ?_;rintro e w' ⟨rfl,rfl⟩) | (at_builtin;go_loud (refine Am (C5.Ab Bz.Ab _ _) rfl _ _ 115 rfl (w.heap.size+1) 124 8 96 Ff Fz yH bw _ rfl hs.out _ _ rfl yF ht.out rfl yL im.out.1 im.out.2 yE ?_;intro ak ax ag cj jt al i2 ek _)))
 go_roundw
 case rel=>exact⟨i+1,bw++[⟨2,s,0,Dd⟩],yE,yK,wC,cj,Fa sh.out (.inr (.inl ⟨rfl,.inl j7,rfl,rfl⟩)),vz.out.snoc (fun h=>yX),c2.out.trans ((bt.mono yE).trans (al.mono yE))⟩
 case measure=>simp[intOf];omega):p:=h
theorem Z0h (k:q) (h:Zh q->p:=by
 intro Zq;(refine Ah (fun K J=>?_);go_simp;refine J _ ?_;clear J K)
 exact Zq.1):p:=h ⟨k⟩
theorem Z0i (k:q) (h:Zh q->p:=by
 intro Zq;have fin:∀(jump:Option Code) (kc:zN),KeepsFrom w o7 kc->
   (Instr.endRound (w.heap.size+1) jump).run P kc=.ok (.bool jump.isNone) (kc.putObj (w.heap.size+1) (.loop (la (if jump.isNone then .ready else .done) jump)))/\
   kc.heap[w.heap.size+1]? =some (.loop {la .ready none with state:=.busy})/\
   (kc.putObj (w.heap.size+1) (.loop (la (if jump.isNone then .ready else .done) jump))).heap[w.heap.size+1]? =some (.loop (la (if jump.isNone then .ready else .done) jump))/\
   (kc.putObj (w.heap.size+1) (.loop (la (if jump.isNone then .ready else .done) jump))).heap[w.heap.size]? =some (.deferred (some [])):=fun jump kc ib=>by
  have l3:=ib.same _ _ yE yb rfl
  exact⟨run_endRound (P:=P) jump l3,l3,Zhk (Zbx.1 l3).1,(Zhj yE).trans (ib.same _ _ (Zab _) iM rfl)⟩
 revert fin;exact Zq.1):p:=h ⟨k⟩
theorem Z0j (h:p:=by
 have bh:=ab.2.2.2 1 _ rfl;have cq:=ab.2.2.2 2 _ rfl;have ed:=ab.2.2.2 3 _ rfl;have ez:=ab.2.2.2 4 _ rfl;have ja:=ab.2.2.2 5 _ rfl;have jh:=ab.2.2.2 6 _ rfl;have jd:=ab.2.2.2 7 _ rfl;have nt:=ab.2.2.2 8 _ rfl;have oi:=ab.2.2.2 9 _ rfl;have vo:=ab.2.2.2 10 _ rfl;have vp:=ab.2.2.2 11 _ rfl;have vq:=ab.2.2.2 12 _ rfl;have sc:=ab.2.2.2 13 _ rfl;have vr:=ab.2.2.2 14 _ rfl;have vt:=ab.2.2.2 15 _ rfl;exact Z3n):p:=h
theorem Z0k (k:q) (h:Zh q->p:=by
 intro Zq;have d0:=b7 0 _ rfl;have d1:=b7 1 _ rfl;have d2:=b7 2 _ rfl;have d3:=b7 3 _ rfl;have d4:=b7 4 _ rfl;simp only[Zac]at d0 d1 d2 d3 d4;revert d0 d1 d2 d3 d4;exact Zq.1):p:=h ⟨k⟩
theorem Z0l (h:p:=by
 obtain⟨⟨ep,v0,v1,v2,v3,fg,gi⟩,e4⟩:=t;obtain⟨bn,br,rfl⟩:=C3 au;refine Z4b ?_;intro a1 c4 dt du hg nu;have G1:=a1 5 _ rfl;have bD:=a1 6 _ rfl;have yg:=a1 7 _ rfl;simp only[Zac]at c4 dt du hg nu G1 bD yg;have gJ:=iv.trans (sq.mono yE);have ck:=Zaa (Dp ((sq.block w yE).trans bJ.out));have k2:=Zaa au;have H2:=Zaa p7;clear au p7 a1 nf;go_wp2_with (refine Zil rfl 43 _ _ rfl _ _ _ rfl rfl ?_ ?_ ?_ ?_)
 ·exact ck.out
 ·first | kernel_rfl | exact Fg
 ·simp[Value.oneCell']
 have cm:=Ao wr w [ep,v0,v1,v2,v3,fg,gi,.slice bn e4 br] 0;have gp:=Zar wr w 0 [ep,v0,v1,v2,v3,fg,gi,.slice bn e4 br] ck.out;have dI:F3 (.node ⟨ep,v0,v1,v2,v3,fg,gi⟩ e4)/\(Tree.node ⟨ep,v0,v1,v2,v3,fg,gi⟩ e4:Rx).size<=26:=Py.Xi (by
  have h:=H2.out;rwa[Zdp (by have:=bim.out;omega)]at h)
 generalize wr.setCells w 0 [.int .u8 ep.toNat,.int .u64 v0.toNat,.int .u64 v1.toNat,.int .u64 v2.toNat,.int .u64 v3.toNat,.int .i64 fg,.int .i64 gi,.slice bn e4 br]=lf at cm gp|-;refine Zho (v:=.agg #[ep,v0,v1,v2,v3,fg,gi,.slice bn e4 br]) (Aq rfl _ _ w 0 [ep,v0,v1,v2,v3,fg,gi,.slice bn e4 br] rfl gp yG yG) rfl ⟨_,_,rfl,?_,dI.1,dI.2,gJ.grown cm gJ.size (fun r e=>yM)⟩;exact Z3f):p:=h
theorem Z0m (h:p:=by
 exact Z2X):p:=h
theorem Z0n (k:q) (h:Zh q->p:=by
 intro Zq;have d0:=b7 0 _ rfl;have d1:=b7 1 _ rfl;have d2:=b7 2 _ rfl;have d3:=b7 3 _ rfl;have d4:=b7 4 _ rfl;revert d0 d1 d2 d3 d4;exact Zq.1):p:=h ⟨k⟩
theorem Z0o (h:p:=by
 go_roundw
 case rel=>exact⟨i+1,_,u,g,yE,yK,rfl,rfl,ff.out.below (A2.Ab B2.Ab _) (Zai _ _) (Zab _),dw.out.skip yE,c2.out⟩
 case measure=>simp[intOf];omega):p:=h
theorem Z0p (k:q) (h:Zh q->p:=by
 intro Zq;refine Z54 ?_;rintro e ad ⟨cx,rfl,e7,af⟩;have fx:Below ay ay ad:=c9.trans (af.mono yE);have dv:=ff.out.below (A2.Ab B2.Ab _) fx (Zab _);revert ad cx e7 af fx dv;exact Zq.1):p:=h ⟨k⟩
theorem Z0q (h:p:=by
 refine A1 rfl (fun K J=>?_);go_wp2_with fail
 refine bF.out.mono ?_;rintro e b4 ⟨rfl,cy⟩;go_wp2_with fail
 refine Z3y ?_;exact Z45):p:=h
theorem Z0r (k:q) (h:Zh q->p:=by
 intro Zq;obtain⟨a8,ba⟩:=zL (w.alloc (.cells #[k,s0,s1,s2,s3,mn,mx,.slice a s c] 43));have aa:Below w w a8:=wD;have dc:a8.heap.size=w+1:=xO;have b7:a8.rangeAt w 0 [k,s0,s1,s2,s3,mn,mx,.slice a s c]:=wG;have dg:=b7 0 _ rfl;have fk:=b7 5 _ rfl;have cp:=b7 6 _ rfl;have j2:=b7 7 _ rfl;simp only[Zac]at dg fk cp j2;have p5:=Zaa dc;revert a8 ba aa dc b7 dg fk cp j2 p5;exact Zq.1):p:=h ⟨k⟩
theorem Z0s (h:p:=by
 obtain⟨⟨ep,hJ,fg,br⟩,vs⟩:=t;obtain⟨bn,pt,rfl⟩:=Jv au;refine Z4b ?_;intro a1 c4 dt du hg nu;simp only[Zac]at c4 dt du hg nu;have gJ:=iv.trans (sq.mono yE);have ck:=Zaa (Dp ((sq.block w yE).trans bJ.out));have k2:=Zaa au;have H2:=Zaa p7;clear au p7 a1 nf;go_wp2_with (refine Zil rfl 118 _ _ rfl _ _ _ rfl rfl ?_ ?_ ?_ ?_)
 ·exact ck.out
 ·first | kernel_rfl | exact nodeInfo
 ·simp[Value.oneCell']
 have cm:=Ao wr w [ep,.float .f64 hJ,fg,br,.slice bn vs pt] 0;have gp:=Zar wr w 0 [ep,.float .f64 hJ,fg,br,.slice bn vs pt] ck.out;have bvk:=H2.out.made;have bwe:=H2.out.size;generalize wr.setCells w 0 [.int .u8 ep.toNat,.float .f64 hJ,.string fg,.int .i64 br,.slice bn vs pt]=lf at cm gp|-;refine Zho (Aq rfl _ _ _ _ _ rfl gp yG yG) rfl ⟨_,_,rfl,?_,bvk,yE,gJ.grown cm gJ.size (fun r e=>yM)⟩;exact Z3f):p:=h
theorem Z0t (h:p:=by
 exact Z2Y):p:=h
theorem Z0u (h:p:=by
 have bg5:=fW.Pz;have ar:=Uk s i k ao nz;have lh:1+Tree.Bf (s.take i)+k< (Tree.node lb s).pre.length:=by
  have:=(Zeg.1 ar).1;simp only[Tree.pre,Zao];omega
 have fe:(Tree.node lb s).pre[1+Tree.Bf (s.take i)+k]=s[i].pre[k]:=by
  have h2:(Tree.node lb s).pre[1+Tree.Bf (s.take i)+k]? =some s[i].pre[k]:=by
   rw[Tree.pre,show 1+Tree.Bf (s.take i)+k=Tree.Bf (s.take i)+k+1 from yE,Zae];exact ar
  exact(Zeg.1 h2).2
 obtain⟨fn,tmps,assign,body,hy,bl⟩:=gy (1+Tree.Bf (s.take i)+k) X _ lh (by rw[fe];exact lg) bdn;clear mh ar fe;gi_wp2_with fail
 refine⟨fun h=>yT,(Jf (r:=some kk) bl).mono ?_⟩;rintro e o7 (⟨rfl,fO,fa⟩ | ⟨rfl,bk6,fa⟩)
 ·have bL:=fW.Mp fa bt yE yE
  gi_wp2_with fail
  exact⟨fa.from yE,fa.Gz (Zab _) (Zab _) yE,by rw[<-Zfx];exact fO,bL⟩
 have bL:=fW.Mp fa bt yE yE;gi_wp2_with fail
 exact⟨fa.from yE,fa.Gz (Zab _) (Zab _) yE,rfl,bk6,bL⟩):p:=h
theorem Z0v (h:p:=by
 clear a7;have H3:=Zaa tq;have hI:C5 B2 ln (w+4) ay (fun b=>b<ay.heap.size/\some b≠(Value.slice e6 q gc).ownBlock) (.node ⟨j6,a0,jk,a2,a3,am,pd⟩ ki) [j6,a0,jk,a2,a3,am,pd,.slice gz ki ac]:=Tree.A6.mono hq.out fun b U=>⟨⟨xN,(bab.out b).resolve_right xN⟩,.inl U⟩
 have ht:=Zaa hI;have ng:di.length+1<=maxLen/\(di.length+1)*80<=140737488355328:=vG;have im:=Zaa ng;clear tq hI ng;go_wp2_with (at_builtin;go_loud (refine Am (C5.Ab B2.Ab _ _) rfl _ _ 41 rfl (w.heap.size+4) 43 8 80 Ez E9 yH di _ rfl cW.out _ _ rfl yE ht.out rfl yL im.out.1 im.out.2 yE ?_;intro ak ax ag cj jt al i2 ek _))
 go_roundw
 case rel=>exact⟨1,di++[(.node ⟨j6,a0,jk,a2,a3,am,pd⟩ ki)],rfl,.inr (.inl ⟨rfl,by rw[q8.out,H3.out];rfl⟩),vI,cj,zc.out.trans ((bt.mono yE).trans (al.mono yE))⟩
 case measure=>simp[intOf]):p:=h
theorem Z0w (h:p:=by
 clear a7;have H3:=Zaa tq;have hI:C5 B2 ln (w+4) ay (fun b=>b<ay.heap.size/\some b≠(Value.slice e6 q gc).ownBlock) (.node ⟨lp,fv,b1,b2,hl,pv,ca⟩ gu) [lp,fv,b1,b2,hl,pv,ca,.slice qd gu yj]:=Tree.A6.mono hq.out fun b U=>⟨⟨xN,(bab.out b).resolve_right xN⟩,.inl U⟩
 have ht:=Zaa hI;have ng:di.length+1<=maxLen/\(di.length+1)*80<=140737488355328:=vG;have im:=Zaa ng;clear tq hI ng;go_wp2_with (at_builtin;go_loud (refine Am (C5.Ab B2.Ab _ _) rfl _ _ 41 rfl (w.heap.size+4) 43 8 80 Ez E9 yH di _ rfl cW.out _ _ rfl yE ht.out rfl yL im.out.1 im.out.2 yE ?_;intro ak ax ag cj jt al i2 ek _))
 go_roundw
 case rel=>exact⟨2,di++[(.node ⟨lp,fv,b1,b2,hl,pv,ca⟩ gu)],rfl,.inr (.inr ⟨rfl,tO⟩),vI,cj,zc.out.trans ((bt.mono yE).trans (al.mono yE))⟩
 case measure=>simp[intOf]):p:=h
theorem Z0x (k:q) (h:Zh q->p:=by
 intro Zq;refine Z2Z ?_;intro d0 d1 d2;have d3:=a1 3 _ rfl;have d4:=a1 4 _ rfl;have d5:=a1 5 _ rfl;have d6:=a1 6 _ rfl;have d7:=a1 7 _ rfl;revert d0 d1 d2 d3 d4 d5 d6 d7;exact Zq.1):p:=h ⟨k⟩
theorem Z0y (k:q) (h:Zh q->p:=by
 intro Zq;simp only[Zfu,Zfs,Zft,Zeb,Zec,Zfk,Zao,Zav,Zdz,Zea,Zbm,Zfi,Zfj];exact Zq.1):p:=h ⟨k⟩
theorem Z0z (k:q) (h:Zh q->p:=by
 intro Zq;have d1:=a6 1 _ rfl;have d2:=a6 2 _ rfl;have d3:=a6 3 _ rfl;have d4:=a6 4 _ rfl;have d5:=a6 5 _ rfl;have d6:=a6 6 _ rfl;have d7:=a6 7 _ rfl;revert d1 d2 d3 d4 d5 d6 d7;exact Zq.1):p:=h ⟨k⟩
theorem Z0A (h:p:=by
 have iS:=xv.cell (j:=0) rfl;have gO:=sf.cell (j:=0) rfl;have blf:=xv.frozen 0;have blj:=sf.frozen 0;have nx:=(xv.set 0 (.int .i64 0)).Em (b':=w.heap.size+3) yE 0 (.bool false);have lr:=(sf.Em (b':=w.heap.size+2) yE 0 (.int .i64 0)).set 0 (.bool false);have af:=Ek (Ek aa (w+2) 0 (.int .i64 0) xA yE) (w+3) 0 (.bool false) (by have:=aa.size;simp;omega) yE;have fa:=(Zda (B:=vc.heap.size) (As X (w+2) 0 (.int .i64 0)) (fun j e=>yM)).trans (Zda (B:=vc.heap.size) (As (X.setCell ⟨w+2,0,none⟩ (.int .i64 0)) (w+3) 0 (.bool false)) (fun j e=>yM));have bg9:=fa.same _ _ (Zab _) hj rfl;clear fa;gi_wp2_with fail
 go_wp2_with fail
 exact wb _ _ _ _ nx lr af bg9 rfl rfl (by rw[bjy];rfl) (by rw[bjy];rfl)):p:=h
theorem Z0B (h:p:=by
 have xb:=aa.trans (bj.mono aa.size);have l9:=bj.size;clear bt zb ft hq iv;have bln:(Eg (dd.take j)).length<=j:=bg6;go_wp2_with (at_builtin;go_loud (refine Am (Ge.Ab Di.Ab _) rfl _ _ 160 rfl a8.heap.size 3 1 8 Hs Ie yH (Gu (dd.take j) 0) _ rfl bay (j:Int) [j] rfl rfl rfl rfl yL yP yE yE ?_;intro bg3 j2 bs l0 xc e5 oc nn wh))
 go_wp2_with fail
 go_roundw
 case rel=>
  have bz:=tc.out;have bo:=bti.out;simp only[bex,Option.toList_some,Zgo,Zia]at bz bo;exact⟨j+1,yE,yK,by rw[bz];exact ni.Qy Gv.Ab oc blx wh,by rw[bo];exact l0,Ij (Mg (Ij blx) wh (fun k e=>(ni.lt k e).2)),bj.trans e5⟩
 case measure=>simp[intOf];omega):p:=h
theorem Z0C (h:p:=by
 obtain rfl:k=s:=by omega
 have fe:¬((s.length:Int) <s.length):=yE;obtain⟨o3,i4,iw,e0,tu,wu,wv,wx,ye,ik,dg,dm,cd,et,j1,fk,cp,j2,bjc⟩:=Ns (Dj.Eo s) i7;have ck:=Zaa bl.there;clear b8 fz da bl i7;go_wp2_with (refine Zil rfl 304 _ _ rfl _ _ _ rfl rfl ?_ ?_ ?_ ?_)
 ·exact ck.out
 ·first | kernel_rfl | exact Oy
 ·simp[Value.oneCell']
 have gp:=Zar wr (w+3) 0 (wP (Eo l s back p s)) (by rw[ik];exact ck.out);rw[ik]at gp;exact Zho (v:=.agg (wP (Eo l s back p s)).toArray) (Aq rfl _ _ (w+3) 0 (wP (Eo l s back p s)) rfl (by rw[ik];exact gp) yG tQ) rfl ⟨by first | rfl | rw[ik],Cn U _ _ _ bp yE⟩):p:=h
theorem Z0D (k:q) (h:Zh q->p:=by
 intro Zq;have bjp:km.heap[w.heap.size+1]? =some (.loop (la .ready none)):=by
  have:=Zhe (w.alloc (.deferred (some []))) (.loop (la .ready none));rwa[Zaq]at this
 have bjo:km.heap[w.heap.size]? =some (.deferred (some [])):=(Zcd _ _ _ yF).trans (Zhe w _);have aa:Below w w km:=((Zai _ w).alloc (Zab _) _).alloc yF _;have oz:km.heap.size=w.heap.size+2:=by simp[km]
 revert bjp bjo aa oz;exact Zq.1):p:=h ⟨k⟩
theorem Z0E (k:q) (h:Zh q->p:=by
 intro Zq;have dg:X.cell? ⟨w+1,0,none⟩=some (.int .i64 0):=wE;have dm:X.cell? ⟨w+1,1,none⟩=some (.int .i64 0):=wE;have cd:X.cell? ⟨w+1,2,none⟩=some (.int .i64 0):=wE;have et:X.cell? ⟨w+1,3,none⟩=some (.int .i64 0):=wE;have j1:X.cell? ⟨w+1,4,none⟩=some (.int .i64 0):=wE;have fk:X.cell? ⟨w+2,0,none⟩=some (.int .i64 0):=by simp[World.cell?,nx]
 have f0:X.frozen? ⟨w+1,0,none⟩=false:=xU;have f1:X.frozen? ⟨w+1,1,none⟩=false:=xU;have f2:X.frozen? ⟨w+1,2,none⟩=false:=xU;have f3:X.frozen? ⟨w+1,3,none⟩=false:=xU;have f4:X.frozen? ⟨w+1,4,none⟩=false:=xU;have f5:X.frozen? ⟨w+2,0,none⟩=false:=by simp[World.frozen?,nx]
 revert dg dm cd et j1 fk f0 f1 f2 f3 f4 f5;exact Zq.1):p:=h ⟨k⟩
theorem Z0F (h:p:=by
 go_wp2_with fail
 go_ret;exact⟨rfl,aa⟩):p:=h
theorem Z0G (h:p:=by
 go_wp2_with fail
 go_ret;exact⟨rfl,rfl⟩):p:=h
theorem Z0H (h:p:=by
 generalize a1:l[i]=x at h1 dn kr;obtain⟨err,gf,lb⟩:=x;simp only[H0.cells]at h1 dn;have kv:=Zaa dn;refine Z3d ?_;intro d0 d1;simp only[Zaf]at d0;clear c5 h1 hC iP a1 dn;have bt:Below w w (wr.alloc (.cells #[err,.func (.func gf) #[] lb] 289)):=U.alloc U.size _;go_wp2_with fail
 refine(kv.out _ bt).mono ?_;rintro e a8 ⟨rfl,aa⟩;have c7:Below w w a8:=bt.trans (aa.mono bt.size);go_wp2_with fail
 go_roundw
 case rel=>exact⟨i+1,yE,rfl,yK,c7⟩
 case measure=>simp[intOf];omega):p:=h
theorem Z0I (k:q) (h:Zh q->p:=by
 intro Zq;have d0:=aq 0 _ rfl;have d1:=aq 1 _ rfl;have d2:=aq 2 _ rfl;have d3:=aq 3 _ rfl;have d4:=aq 4 _ rfl;have d5:=aq 5 _ rfl;have d6:=aq 6 _ rfl;have d7:=aq 7 _ rfl;revert d0 d1 d2 d3 d4 d5 d6 d7;exact Zq.1):p:=h ⟨k⟩
theorem Z0J (h:p:=by
 refine Gx g3 (fun W _=>gj _ _ W) ?_;have rb:=(aa.block ca bt).trans c5;have aw:=A4 rb j v av;rw[Zac]at aw;have cv:a8.frozen? ⟨ca,j,none⟩=false:=by simp[World.frozen?,rb]
 refine Ae6 g4 (yo _ ak (l+1) ax a8 aw cv) yF yF (B1 ?_);have bu:=As a8 ca j (.slice ak (l+1) ax);have ix:=Zhy a8 ca j cells.toArray k9 (.slice ak (l+1) ax) rb;refine h ak ax _ (jx.Om hI bu bt) p9 ?_ (fun b U cf eB=>(bu.block b yE yJ).trans (dr.block b U eB)) ((aa.mono yE).grown bu xA (fun r e=>yM)) uF jy;rw[ix];simp):p:=h
theorem Z0K (h:p:=by
 go_ret;exact⟨rfl,rfl⟩):p:=h
theorem Z0L (h:p:=by
 rintro kk k ak X a7 pa hI ⟨v,rfl⟩;have aw:=hI.box.cell;have cv:=hI.box.frozen;have gv:(k:Int)+1<=10000:=uY;gi_wp2_with fail
 exact hI.step (k+1) yE ah yE):p:=h
theorem Z0M (h:p:=by
 obtain rfl:i=ai.length:=by omega
 have fe:¬((ai.length:Int) <ai.length):=yE;go_wp2_with fail
 go_ret;exact⟨vA,U⟩):p:=h
theorem Z0N (h:p:=by
 go_wp2_with fail
 go_ret;exact⟨rfl,Af _⟩):p:=h
theorem Z0O (h:p:=by
 go_enter func178,ntmps178
 go_wp2_with fail
 refine j5.out.mono ?_;rintro e a8 ⟨rfl,aa⟩;have d1:=Aa dg aa fv 1 _ rfl;have f1:a8.cell? ⟨jr,2,none⟩=some (.slice (some bf) s.Ac bb):=(Zaw (aa.block _ b1)).trans dm;have f2:a8.cell? ⟨bi,0,none⟩=some (.int .i64 i):=(Zaw (aa.block _ b2)).trans cd;simp only[Zac]at d1;go_wp2_with fail
 refine(cS.out _ aa).mono ?_;exact Z2J):p:=h
theorem Z0P (k:q) (h:Zh q->p:=by
 intro Zq;refine c3.out.mono ?_;exact Zq.1):p:=h ⟨k⟩
theorem Z0Q (h:p:=by
 have k2:=Zaa fun X=>Qs a c X
 go_enter func182,ntmps182
 go_wp2_with fail
 refine(k2.out _).mono ?_;refine Z2S ?_;intro a8 aa b7 c7;have ao:=c7.size;have j3:w.heap.size<a8:=xT;have d0:=b7 0 _ rfl;have d11:=b7 11 _ rfl;have d12:=b7 12 _ rfl;simp only[Zac]at d0 d11 d12;go_wp2_with fail
 refine(Hq _ _ _ _ h1 h2).mono ?_;rintro e ad ⟨rfl,rfl⟩;go_wp2_with fail
 go_ret;exact⟨rfl,c7⟩):p:=h
theorem Z0R (h:p:=by
 have bl:=bG.out.rowsOf Ct.cells (fun _ _ _ _ h=>h) yF;have fz:=Qz es (Ga k) a4 j1 hf hf (Zab _) yE bl;rw[show(es++[⟨3,0⟩,⟨3,0⟩,Ga k]).length=es.length+3 from yF]at fz;exact⟨fz,i5.trans (jl.mono yE)⟩):p:=h
theorem Z0S (h:p:=by
 rintro e a8 ⟨rfl,U⟩;have fe:decide (0<=E8 p ai)=(List.range ai).any p:=Ky;have eX:=Zaa fe;clear fe;go_wp2_with fail
 go_ret;exact⟨vM,U⟩):p:=h
theorem Z0T (h:p:=by
 go_roundw
 case rel=>exact⟨i+1,_,yE,yK,ff.out.below (A2.Ab Cz.Ab _) (Zai _ _) (Zab _),dw.out.skip,c2.out⟩
 case measure=>simp[intOf];omega):p:=h
theorem Z0U (h:p:=by
 refine Z3c ?_;intro bh cq ed ez;have ja:=ab.2 5 _ rfl;have jh:=ab.2 6 _ rfl;have jd:=ab.2 7 _ rfl;have nt:=ab.2 8 _ rfl;have oi:=ab.2 9 _ rfl;have vo:=ab.2 10 _ rfl;have vp:=ab.2 11 _ rfl;have vq:=ab.2 12 _ rfl;have sc:=ab.2 13 _ rfl;have vr:=ab.2 14 _ rfl;have vt:=ab.2 15 _ rfl;simp only[Zac]at aq bh cq ed ez ja jh jd nt oi vo vp vq sc vr vt;go_simp):p:=h
theorem Z0V (h:p:=by
 rintro X ⟨dK,x7⟩ bde;gi_wp2_with fail
 have bxt:=Jw x7.Pz;refine⟨⟨i+1,ag.heap.size::Ds,_,_,_,_,_,_,_,_,_,_,_,_,_,_,_,_,_,_,_,rfl,yE,?_,?_,bxt⟩,?_⟩
 ·rw[Tree.Dx]at dK
  rw[I7 s i ao,<-Zfx];exact dK
 ·exact⟨x7.box,x7.Pz,x7.tree,Zfe.2 ⟨fun h=>tH,x7.nd⟩,fun D h=>by
   rcases List.mem_cons.1 h with rfl | h
   ·exact⟨yE,bde⟩
   exact x7.Kb D h⟩
 simp[intOf];omega):p:=h
theorem Z0W (k:q) (h:Zh q->p:=by
 intro Zq;simp only[Ew,Im,Zia,Zah,Zao,Zav,Nat.reduceAdd,Zae,Zad,Zbs,Act.put];go_simp;simp only[Ft];exact Zq.1):p:=h ⟨k⟩
theorem Z0X (k:q) (h:Zh q->p:=by
 intro Zq;refine Z3c ?_;intro bh cq ed ez;have ja:=ab.2 5 _ rfl;have jh:=ab.2 6 _ rfl;have jd:=ab.2 7 _ rfl;revert bh cq ed ez ja jh jd;exact Zq.1):p:=h ⟨k⟩
theorem Z0Y (k:q) (h:Zh q->p:=by
 intro Zq;have aq:∀c4 dt du:Value,(part 3 #[c4,dt,du] 0).run prog w=.ok c4 w:=fun c4 dt du=>Mf w _ 0 _ rfl
 have bh:∀c4 dt du:Value,(part 3 #[c4,dt,du] 1).run prog w=.ok dt w:=fun c4 dt du=>Mf w _ 1 _ rfl
 have cq:∀c4 dt du:Value,(part 3 #[c4,dt,du] 2).run prog w=.ok du w:=fun c4 dt du=>Mf w _ 2 _ rfl
 have g0:(f0.name≠ "_")=True:=by simpa using mi
 have g1:(f1.name≠ "_")=True:=by simpa using wo
 have g2:(f2.name≠ "_")=True:=by simpa using yd
 revert aq bh cq g0 g1 g2;exact Zq.1):p:=h ⟨k⟩
theorem Z0Z (k:q) (h:Zh q->p:=by
 intro Zq;have bc:=xa.cell (j:=0) rfl;have q1:=xa.cell (j:=1) rfl;have eh:=xa.cell (j:=2) rfl;have hn:=xa.cell (j:=3) rfl;have i3:=xa.cell (j:=4) rfl;have hb:=xa.cell (j:=5) rfl;have hc:=xa.cell (j:=6) rfl;have wt:=xa.cell (j:=7) rfl;have c3:=Zaa (bp7.out b3 _ h6 (A0.Ab.block jQ.out fun b U=>cC.block b U) ((Al.Ab Eh.Ab).block ca7.out fun b U=>cC.block b U) (cC.box mu.out.run bvv) (cC.box mu.out.Bv dM) (C2.Ab.wide (C2.Ab.block ca4.out (w':=b3) fun b U=>bj.block b (bqy b U)) fun b U=>h6.low b U));revert bc q1 eh hn i3 hb hc wt c3;exact Zq.1):p:=h ⟨k⟩
theorem Z10 (k:q) (h:Zh q->p:=by
 intro Zq;have d0:=e0 0 _ rfl;have d1:=e0 1 _ rfl;have d2:=e0 2 _ rfl;have d3:=e0 3 _ rfl;have d4:=e0 4 _ rfl;have d5:=e0 5 _ rfl;have d6:=e0 6 _ rfl;have d7:=e0 7 _ rfl;have d8:=e0 8 _ rfl;have d9:=e0 9 _ rfl;revert d0 d1 d2 d3 d4 d5 d6 d7 d8 d9;exact Zq.1):p:=h ⟨k⟩
theorem Z11 (h:p:=by
 go_simp;simp only[Ft];exact⟨hI,Zai _ _,rfl⟩):p:=h
theorem Z12 (h:p:=by
 rw[hlen]at zy zw aw|-;rw[hlen]at hb;refine h ak ax w' ⟨ai++[cs],hb,by simp[g2],fun j tt uy=>?_⟩ aw ((Zai lo w).grown dr ij fun r e=>(g1.lt r e).1) dr yE zy;by_cases av:j<l
 ·rw[Zei av,Zei yE]
  exact zw _ _ (g3 j av yE)
 have kY:j=l:=by simp at tt;omega
 subst kY;rw[Zbn yE,Zbn yE];simp only[g2,Zgj,Zek];exact zw _ _ hy):p:=h
theorem Z13 (h:p:=by
 exact Z3l):p:=h
theorem Z14 (h:p:=by
 exact Z31):p:=h
theorem Z15 (h:p:=by
 simp only[Zac]at bh;go_simp):p:=h
theorem Z16 (h:p:=by
 try simp only[Zaf,Zac,Zba]at cq
 go_simp):p:=h
theorem Z17 (k:q) (h:Zh q->p:=by
 intro Zq;have dg:=e3.cell (j:=0) rfl;have dm:=e3.cell (j:=1) rfl;have cd:=e3.cell (j:=2) rfl;have et:=e3.cell (j:=3) rfl;have j1:=e3.cell (j:=4) rfl;have fk:=e3.cell (j:=5) rfl;have cp:=e3.cell (j:=6) rfl;have j2:=e3.cell (j:=7) rfl;revert dg dm cd et j1 fk cp j2;exact Zq.1):p:=h ⟨k⟩
theorem Z18 (h:p:=by
 try simp only[Zaf,Zac,Zba]at bh
 go_simp):p:=h
theorem Z19 (k:q) (h:Zh q->p:=by
 intro Zq;refine Z49 ?_;intro d0 d1 d2 d3 d4;have d5:=fm 5 _ rfl;have d6:=fm 6 _ rfl;have d7:=fm 7 _ rfl;revert d0 d1 d2 d3 d4 d5 d6 d7;exact Zq.1):p:=h ⟨k⟩
theorem Z1a (k:q) (h:Zh q->p:=by
 intro Zq;rintro e a8 ⟨rfl,aa⟩;have b7:=Aa df aa yJ;have n9:=Aa aW aa yF;have uj:Below w w a8:=c0.trans (aa.mono yJ);have dc:w.heap.size+1<a8:=xT;have bno:=n9 0 _ rfl;have bnp:=n9 1 _ rfl;have bnq:=n9 2 _ rfl;have bnr:=n9 3 _ rfl;have bns:=n9 4 _ rfl;revert a8 aa b7 n9 uj dc bno bnp bnq bnr bns;exact Zq.1):p:=h ⟨k⟩
theorem Z1b (h:p:=by
 have bh:=ab.2.1 1 _ rfl;have cq:=ab.2.1 2 _ rfl;try simp only[Zaf,Zac,Zba]at aq bh cq
 go_simp):p:=h
theorem Z1c (k:q) (h:Zh q->p:=by
 intro Zq;refine Z3d ?_;intro d0 d1;simp only[Zaf]at d0;revert d0 d1;exact Zq.1):p:=h ⟨k⟩
theorem Z1d (h:p:=by
 rintro k ak A C row ⟨hz,es,hc,wt,E5,aZ,hD,hE,lX,lY,lZ,hG,hH,ba0,ba1,aY,ba2,a7,h1,h2,h3,h4⟩ ar a6;exact⟨hz,es,hc,wt,E5,aZ,hD,hE,lX,lY,lZ,hG,hH,ba0,ba1,aY,ba2,a7,h1,Dg A C row h2 ar a6,Tree.In.B8 A C row h3 ar a6,Zal h4 ar.size⟩):p:=h
theorem Z1e (k:q) (h:Zh q->p:=by
 intro Zq;have fe:¬((s.length:Int) <s.length):=yE;revert fe;exact Zq.1):p:=h ⟨k⟩
theorem Z1f (h:p:=by
 obtain⟨v,h1,h2⟩:=h;exact Jz h0 (Zgt nm) bl gA _ s a w hk b0 (Zgs h0 cv) n0 (.inl ⟨lx,h1⟩) (cb cz _ _ w hw (b0.set n0) pa w3 h2)):p:=h
theorem Z1g (h:p:=by
 rw[<-bm];have:=Ae ((w.alloc (.cells #[s.Aj,.slice ei s.An ej,.slice hd s.Ac e9] 30)).alloc (.cells #[r.kind,r.Bh,r.Bp,z0,b9,z2,z3,z4,z5,cc,.slice bg bk z9,r.text,r.Az,.slice bn r.Aw br,r.A3,r.Bl] 48)) [total] 3;rwa[Zaq,Zaq]at this):p:=h
theorem Z1h (h:p:=by
 rw[<-bm];have:=Aa (Ae (w.alloc (.cells #[s.Aj,.slice ei s.An ej,.slice hd s.Ac e9] 30)) [r.kind,r.Bh,r.Bp,z0,b9,z2,z3,z4,z5,cc,.slice bg bk z9,r.text,r.Az,.slice bn r.Aw br,r.A3,r.Bl] 48) (Af (.cells #[total] 3)) yF;rwa[Zaq]at this):p:=h
theorem Z1i (h:p:=by
 refine⟨⟨cur,(i2.block g jx (by simpa using y8)).trans ff.out⟩,fun j h av=>yE,fun j h _=>⟨Ag (kj j h) (i2.block g jx (by simpa using y8)),bl1 j h⟩,fun j h ig=>?_,yE⟩;exact Tree.A6.block (bme j h ig) (fun b U=>i2.block b yE yJ)):p:=h
theorem Z1j (h:p:=by
 rw[<-bm];exact Aa (Aa (Ae w _ 30) (Af _) yF) (Af _) yJ):p:=h
theorem Z1k (h:p:=by
 intro bg3 j2 bs l0 xc e5 oc nn wh;have ba7:=Zaa l0;clear l0 oc wh;go_wp2;exact⟨⟨j+1,ao,yK,sG,i5.trans e5⟩,xJ⟩):p:=h
theorem Z1l (h:p:=by
 have:i=0:=vB;subst this;exact⟨_,by simpa using g2,Tree.A6.mono (Tree.A6.below b8 c7 au) fun b U=>.inl U⟩):p:=h
theorem Z1m (h:p:=by
 rintro c X ⟨rfl,dK,x7⟩ bde;gi_wp2_with fail
 exact wb _ (ag.heap.size::Ds) _ (Zfe.2 ⟨fun h=>tH,x7.nd⟩) (fun D h=>by
   rcases List.mem_cons.1 h with rfl | h
   ·exact⟨yE,bde⟩
   exact x7.Kb D h) (.inr dK)):p:=h
theorem Z1n (h:p:=by
 have h:=Zgg a1 hy;show IntKind.u64.wrap (((BitVec.ofInt 64 (x:Int))|||(BitVec.ofInt 64 (y:Int))).toNat:Int)=_;rw[Zce,Zce,BitVec.toNat_or,Zcf,Zcf,Zgc a1,Zgc hy];generalize x|||y=z at h;rw[Zcx];omega):p:=h
theorem Z1o (h:p:=by
 rintro X hI hj;have cv:=hI.1.frozen;have p9:=hI.1.cell;gi_wp2_with fail
 go_wp2_with fail
 exact Vy (Ds:=[ag.heap.size]) rfl rfl (hI.1.set _).cell (hI.2.setCell (p:=⟨w+1,0,none⟩) yF _) yF (fun E cl=>sZ)):p:=h
theorem Z1p (h:p:=by
 refine⟨Aa my aa (Bm my (by simp[fc])),?_,b8.move (fun b o dk U a6 j v aj=>?_) (Zab _),yF,yF⟩
 ·rw[<-yr];exact(Zco _ _ _).cell
 exact(Zaw (a:=⟨b,o+j,none⟩) (aa.block b yE)).trans (a6 j v aj)):p:=h
theorem Z1q (k:q) (h:Zh q->p:=by
 intro Zq;have fe:¬((l.length:Int) <l.length):=yE;revert fe;exact Zq.1):p:=h ⟨k⟩
theorem Z1r (h:p:=by
 obtain⟨dk,q1,eh,hn⟩:=I.done i ae ae;refine⟨dk,?_,?_⟩
 ·rw[Zac];exact Ag q1 (cm.block g yE yJ)
 exact Tree.A6.mono (Tree.A6.block hn fun b U=>cm.block b U.2 yJ) fun b U=>⟨yE,yE⟩):p:=h
theorem Z1s (k:q) (h:Zh q->p:=by
 intro Zq;refine dn.mono ?_;rintro e a8 ⟨rfl,aa⟩;have c7:Below w w a8:=U.trans (aa.mono U.size);revert a8 aa c7;exact Zq.1):p:=h ⟨k⟩
theorem Z1t (h:p:=by
 have bh:=ab.1 1 _ rfl;have cq:=ab.1 2 _ rfl;have ed:=ab.1 3 _ rfl;have ez:=ab.1 4 _ rfl;have ja:=ab.1 5 _ rfl;have jh:=ab.1 6 _ rfl;have jd:=ab.1 7 _ rfl;simp only[Zaf]at aq;go_simp):p:=h
theorem Z1u (k:q) (h:Zh q->p:=by
 intro Zq;have eo:=az.below af az.lt;have px:=gy.below af gy.lt;have bR:=sn.below af sn.lt;have bzq:=px.cell (j:=0) rfl;have bzr:=px.cell (j:=1) rfl;have bzv:=px.cell (j:=2) rfl;have bc:=e7.cell (j:=0) rfl;have q1:=e7.cell (j:=1) rfl;have eh:=e7.cell (j:=2) rfl;have hn:=e7.cell (j:=3) rfl;have i3:=e7.cell (j:=4) rfl;have i9:=i5.trans (af.mono i5.size);revert eo px bR bzq bzr bzv bc q1 eh hn i3 i9;exact Zq.1):p:=h ⟨k⟩
theorem Z1v (h:p:=by
 rw[<-bm];have:=Ae ((w.alloc (.cells #[s.Aj,.slice (some ⟨b,o,none⟩) s.An bb,u] 30)).alloc (.cells #[i] 3)) [x.name,x.number,x.text,.float .f64 x.float] 53;rwa[Zaq,Zaq]at this):p:=h
theorem Z1w (h:p:=by
 rw[<-bm];have:=Aa (Ae (w.alloc (.cells #[s.Aj,.slice (some ⟨b,o,none⟩) s.An bb,u] 30)) [i] 3) (Af (.cells #[x.name,x.number,x.text,.float .f64 x.float] 53)) yF;rwa[Zaq]at this):p:=h
theorem Z1x (h:p:=by
 rintro X hI hj;have aw:=hI.box.cell;have gv:(t.pre.length:Int)<=10000:=by rw[Tree.Dx];omega
 gi_wp2_with fail
 go_wp2_with fail
 rw[Exit.noGoto_ret];exact Kx rfl rfl hI.Qe hj yE):p:=h
theorem Z1y (k:q) (h:Zh q->p:=by
 intro Zq;have h1:=Cp.block A0.Ab c2.out (w':=X) (fun b U=>(az.block b (by have:=bu.size;have:=e5.size;omega)).trans ((bu.block b uG (B4 yE)).trans (e5.block b U.2)));have h2:=A0.Ab.wide (S':=fun b=>b<b3) h1 (fun b U=>U.2);obtain⟨v,u,e,aj,hu⟩:=h2;simp only[Zdm,Zhm]at e;revert h1 h2 v u e aj hu;exact Zq.1):p:=h ⟨k⟩
theorem Z1z (h:p:=by
 rwa[Zaq]at this):p:=h
theorem Z1A (h:p:=by
 obtain⟨bu7,kM⟩:=I.row;have vm:=(I.todo i yE (Zab _));intro j av;refine⟨?_,?_⟩
 ·rw[(Ag vm.1 rq) j _ (Zam (by rw[vm.2];exact av))];rfl
 simp[World.frozen?,rq,kM]):p:=h
theorem Z1B (h:p:=by
 rw[en];cases h0:(b==0)<;>rw[h0]at U<;>cases over<;>
 ·have ny:((b.toNat:Int)==0)=_:=U
  go_enter func40,ntmps40
  exact Z0N):p:=h
theorem Z1C (k:q) (h:Zh q->p:=by
 intro Zq;have bd6:=Aa c4 az yE;have bd7:=Aa dt az yE;have o7:=Aa du az yE;have kc:=Aa hg az yE;have e7:=A0.Ab.below i0 (mc.mono ah);have iu:=Bj.Ab.below qe (mc.mono ah);revert bd6 bd7 o7 kc e7 iu;exact Zq.1):p:=h ⟨k⟩
theorem Z1D (h:p:=by
 rw[<-bm];have:=Ae ((w.alloc (.cells #[s.Aj,v,.slice (some ⟨b,o,none⟩) s.Ac bb] 30)).alloc (.cells #[i] 3)) [x.name,.slice fp x.Ai rc] 37;rwa[Zaq,Zaq]at this):p:=h
theorem Z1E (h:p:=by
 have bh:=ab.1 rfl |>.2 1 _ rfl;have cq:=ab.1 rfl |>.2 2 _ rfl;have ed:=ab.1 rfl |>.2 3 _ rfl;have ez:=ab.1 rfl |>.2 4 _ rfl;simp only[Zac]at aq bh cq ed ez;go_simp):p:=h
theorem Z1F (h:p:=by
 go_wp2_with fail
 go_loop [17] (fun v=>v=.int .i64 0) (fun _=>0)
 case atStart=>rfl
 case round=>
  obtain rfl:=hrel;exact Z0G):p:=h
theorem Z1G (h:p:=by
 obtain⟨bny,om⟩:=y;obtain⟨cxx,cxy,rfl⟩:=C3 h2;exact⟨_,rfl,yL,h1,Tree.A6.mono h2 fun b U=>⟨⟨xN,(bab.out b).resolve_right xN⟩,.inl U⟩⟩):p:=h
theorem Z1H (h:p:=by
 go_enter func194,ntmps194
 go_wp2_with fail
 refine(c2.out _ df).mono ?_;rintro e ad ⟨rfl,af⟩;go_wp2_with fail
 go_ret;exact⟨rfl,c0.trans (af.mono c0.size)⟩):p:=h
theorem Z1I (h:p:=by
 rintro w w' S S' l v a6 hm ⟨a,c,rfl,aw,h⟩;refine⟨a,c,rfl,aw,h.imp id ?_⟩;rintro⟨b,o,rfl,U,h⟩;exact⟨b,o,rfl,hm _ U,a6 _ _ _ U h⟩):p:=h
theorem Z1J (h:p:=by
 rcases h1 with h1 | ⟨_,a0,dq,h1⟩
 ·exact R8 I0 h1
 exact(I0 _ _ _ yF h1).elim):p:=h
theorem Z1K (h:p:=by
 go_wp2_with fail
 go_ret;exact⟨rfl,Zai _ _⟩):p:=h
theorem Z1L (h:p:=by
 simp only[Instr.lookup,Zgv,Zig hm,Zgu,kS,Zgw,aw,Zfw a7 cv,Zia,Zbd,Zhz]):p:=h
theorem Z1M (h:p:=by
 rcases jv with e | ⟨b,o,rfl,_⟩
 ·rw[e]at dn;simp at dn;omega
 simp):p:=h
theorem Z1N (h:p:=by
 have h2:2^r<2^64:=Zgi yH h;have e:((2:Int)^r)=((2^r:Nat):Int):=yF;rw[e];generalize 2^r=z at h2;rw[Zcx];omega):p:=h
theorem Z1O (h:p:=by
 refine Z3c ?_;intro bh cq ed ez;simp only[Zac]at aq bh cq ed ez;go_simp):p:=h
theorem Z1P (h:p:=by
 simp only[Zac]at aq;go_simp):p:=h
theorem Z1Q (h:p:=by
 have h1:=dw.out.size;have h2:=Lb (x:=t0) (p:=aq++[t0]++[u0]) yF;have h3:=Lb (x:=u0) (p:=aq++[t0]++[u0]) yF;omega):p:=h
theorem Z1R (h:p:=by
 have:=Tree.Co t;simp only[Tree.size]at bp;omega):p:=h
theorem Z1S (h:p:=by
 have:=Zgf.1 e;exact absurd this.2 (Zgh.1 (Zgk r))):p:=h
theorem Z1T (h:p:=by
 go_roundw
 case rel=>exact⟨k+1,yE,yK,aI.trans qx,Zag (Zag bp aa.size) qx.size,cA⟩
 case measure=>simp[intOf];omega):p:=h
theorem Z1U (h:p:=by
 have h5:=b5.1;rw[Zaq]at h5;exact⟨⟨b5.2,fun e=>uV⟩,yE⟩):p:=h
theorem Z1V (h:p:=by
 intro j u av;exact Zde _ (bX.out j u av)):p:=h
theorem Z1W (h:p:=by
 obtain rfl:i=xs:=by omega
 have fe:¬((xs.length:Int) <xs.length):=yE;go_wp2_with fail
 go_ret;exact⟨vA,rfl⟩):p:=h
theorem Z1X (h:p:=by
 rintro X hI hj;have aw:=hI.box.cell;gi_wp2_with fail
 go_wp2_with fail
 exact Kx rfl (by rw[<-Tree.Dx];rfl) hI.Qe hj yE):p:=h
theorem Z1Y (h:p:=by
 exact⟨0,[],_,_,_,_,_,_,_,_,_,_,_,_,_,_,_,_,_,_,_,rfl,Zap _,by simpa[Tree.Bf]using jX,bL,yE⟩):p:=h
theorem Z1Z (h:p:=by
 rintro c X h;exact h.elim):p:=h
theorem Z20 (h:p:=by
 refine Bn (b:=b3) ?_ bu;have h:=Bn beg bx8;exact⟨h.os,h.tape,h.output,h.size,fun k a7 _=>h.block k a7 yF⟩):p:=h
theorem Z21 (k:q) (h:Zh q->p:=by
 intro Zq;have oc:wr.grownBy bs (some g):=by
  exact Z20
 have l9:=bj.size;revert oc l9;exact Zq.1):p:=h ⟨k⟩
theorem Z22 (h:p:=by
 rw[<-cr];exact(Zco a8 3 (.int .i64 0)).alloc (.cells #[z0,b9,z2,z3,z4,z5,cc,.slice bg bk z9] 43)):p:=h
theorem Z23 (h:p:=by
 simp only[World.setCell,Zby,Zia,bcp.out,Zaj,Zgn];simp):p:=h
theorem Z24 (h:p:=by
 try simp only[Zaf,Zac,Zba]at aq
 go_simp):p:=h
theorem Z25 (h:p:=by
 unfold isAgg;rw[Zgv,Zig hu w];rfl):p:=h
theorem Z26 (k:q) (h:Zh q->p:=by
 intro Zq;have lu:wP p=[.int .u64 aq,.int .u64 bh,.int .u64 cq,.int .u64 ed,.int .u64 ez,.int .u64 ja,.int .u64 jh,.int .u64 jd,.int .u64 nt]:=by rw[aS];rfl
 revert lu;exact Zq.1):p:=h ⟨k⟩
theorem Z27 (h:p:=by
 go_wp2_with fail
 go_ret;exact⟨rfl,(Af _).alloc yF _⟩):p:=h
theorem Z28 (h:p:=by
 go_wp2_with fail
 all_goals (go_ret;exact⟨rfl,rfl⟩)):p:=h
theorem Z29 (k:q) (h:Zh q->p:=by
 intro Zq;have wk:=(show bf<w from by obtain⟨_,_,_,U,_⟩:=b0.box;exact U.lt);have uo:lb<w:=rI;have we:an<w:=(by obtain⟨_,_,hm⟩:=b0.map;exact(Zbx.1 hm).1);revert wk uo we;exact Zq.1):p:=h ⟨k⟩
theorem Z2a (h:p:=by
 exact(oa.block b yE yJ).trans ((rq.block b yE yJ).trans ((c9.block b yE).trans (kj.block b U.2 yJ)))):p:=h
theorem Z2b (h:p:=by
 have:=af.size;rcases U with U | U
 ·exact⟨⟨yE,U.1.2⟩,U.2⟩
 exact⟨⟨U.2,yE⟩,yE⟩):p:=h
theorem Z2c (h:p:=by
 rw[<-hlen];refine Su nm S cz _ a (w.drewN 1) hC ?_ ao wU h;intro j o _ be;rw[Zhw]at be;cases be):p:=h
theorem Z2d (h:p:=by
 rintro e w' ⟨bw,v,h1,h2,h3,h4,h5,h6⟩;exact⟨bw,v,h1,h2,⟨h3,h4,h5⟩,h6⟩):p:=h
theorem Z2e (k:q) (h:Zh q->p:=by
 intro Zq;obtain⟨q,b5⟩:=zL (i / 64);obtain⟨r,q0⟩:=zL (i%64);have by7:q<9:=yE;have bri:r<64:=yE;have c1:(i:Int).tdiv 64=(q:Int):=by rw[Zcu yE];omega
 have hm:(i:Int).tmod 64=(r:Int):=wN;revert q b5 r q0 by7 bri c1 hm;exact Zq.1):p:=h ⟨k⟩
theorem Z2f (h:p:=by
 subst e;obtain⟨es,bjd,hm,-⟩:=ka;rw[show w.heap[k9]? =_ from dx]at hm;cases hm):p:=h
theorem Z2g (h:p:=by
 rw[if_pos hw];exact⟨.agg cells,fun w' _=>V0 t Ay cells bx U w',h _ fun _ h=>h⟩):p:=h
theorem Z2h (h:p:=by
 simp only[Zad,Zbb]at aj;subst aj;first | simpa[gh]using h1 | simpa[xn,gh]using h1):p:=h
theorem Z2i (h:p:=by
 obtain⟨l,s⟩:=t;obtain⟨a,c,rfl,_⟩:=Tree.A6.open h;exact⟨a,c,rfl⟩):p:=h
theorem Z2j (h:p:=by
 have h1:=Zdg.1 a7.2 (j,ks) (Nk T j ks iV);simp only[bbs,Zcm]at h1;exact c1 k vD):p:=h
theorem Z2k (h:p:=by
 have aw:=hI.box.cell;gi_wp2_with fail
 go_wp2_with fail
 exact Kx rfl rfl hI.Qe hj yE):p:=h
theorem Z2l (h:p:=by
 have:=h.size;rw[Tree.En]at this|-;simp only[Tree.Bf,Tree.size]at*;omega):p:=h
theorem Z2m (k:q) (h:Zh q->p:=by
 intro Zq;refine Ad (fun K J=>?_);refine Z42 ?_;clear J K;exact Zq.1):p:=h ⟨k⟩
theorem Z2n (k:q) (h:Zh q->p:=by
 intro Zq;go_simp;refine J _ ?_;exact Zq.1):p:=h ⟨k⟩
theorem Z2o (k:q) (h:Zh q->p:=by
 intro Zq;(refine Ah (fun K J=>?_);go_simp;refine J _ ?_;clear J K)
 exact Zq.1):p:=h ⟨k⟩
theorem Z2p (k:q) (h:Zh q->p:=by
 intro Zq;have X3:a8.heap.size=w+1:=xO;have X4:ad.heap.size=w+2:=tL;have Xa:ag.heap.size=w+3:=tM;have eN:W.heap.size=w+4:=by rw[<-bm];simp[Xa]
 have b1:Below w w a8:=wD;have b2:Below a8 a8 ad:=tB;have hl:Below ad ad ag:=uD;have Kd:Below ag ag W:=tC;have K1:Below ad ad W:=hl.trans (Kd.mono yE);refine Z4j ?_;intro Jx el c4;have dt:W.rangeAt (w+1) 0 [r.kind,r.Bh,r.Bp,z0,b9,z2,z3,z4,z5,cc,.slice bg bk z9,r.text,r.Az,.slice bn r.Aw br,r.A3,r.Bl]:=Aa uR K1 yE;revert X3 X4 Xa eN b1 b2 hl Kd K1 Jx el c4 dt;exact Zq.1):p:=h ⟨k⟩
theorem Z2q (h:p:=by
 refine A1 rfl (fun K J=>?_);go_wp2_with fail
 refine Z3y ?_;exact Z4o):p:=h
theorem Z2r (h:p:=by
 rw[ra]at cf;clear ra;go_wp2_with fail
 refine(Q2 _).mono ?_;rintro e w' ⟨rfl,rfl⟩;go_wp2_with fail
 refine Z3X ?_;intro ad af fx;have hI:A2 Cz (w+1) ad (fun b=>b< (ad).heap.size/\some b≠(Value.slice e6 q gc).ownBlock) (.node ⟨8,Gr,⟨#[]⟩,0⟩ []) [.int .u8 8,.float .f64 Gr,zC,zE,zH]:=Tree.A6.shut (E:=Df.cells) (l:=⟨8,Gr,⟨#[]⟩,0⟩) (Zap _) (.inl rfl);have ht:=Zaa hI;have dv:=ff.out.below (A2.Ab Cz.Ab _) fx (Zab _);have hs:=Zaa dv;have bp:=fx.size;clear hI dv;go_wp2_with (at_builtin;go_loud (refine Am (A2.Ab Cz.Ab _) rfl _ _ 116 rfl (w.heap.size+1) 118 5 64 Ep Eu yH p _ rfl hs.out _ _ rfl yE ht.out rfl yL im.out.1 im.out.2 yE ?_;intro ak ax ag cj jt al i2 ek _))
 go_roundw
 case rel=>exact⟨i+1,p++[(.node ⟨8,Gr,⟨#[]⟩,0⟩ [])],yE,yK,cj,dw.out.leaf (Hv _ yH yH) rfl,c2.out.trans ((fx.mono yE).trans (al.mono yE))⟩
 case measure=>simp[intOf];omega):p:=h
theorem Z2s (k:q) (h:Zh q->p:=by
 intro Zq;have aI:A8 (Nw n s) w a8:=J.trans (A8.By aa (fun k a7=>Zal (bn1 k a7) p2));have blh:di k a8:=(jw k).below av aa (Zab _);refine Z3P ?_;intro aq bh cq ed;have ez:=e3.cell (j:=4) rfl;have ja:=e3.cell (j:=5) rfl;have jh:=e3.cell (j:=6) rfl;have jd:=e3.cell (j:=7) rfl;have q1:=(aI.box lq (.inr ⟨yE,yE⟩)).cell (j:=0) rfl;have eh:=(aI.box lr (.inr ⟨yE,yE⟩)).cell (j:=0) rfl;revert aI blh aq bh cq ed ez ja jh jd q1 eh;exact Zq.1):p:=h ⟨k⟩
theorem Z2t (k:q) (h:Zh q->p:=by
 intro Zq;have aP:(Tree.node ⟨k,s0,s1,s2,s3,mn,mx⟩ s).Da=min ((if k=5 then min (J6 ⟨k,s0,s1,s2,s3,mn,mx⟩) 10001 else 1)*((if k=2 then 1 else 0)+Tree.Cm s)) 10001:=rfl;have bfr:=Zaa bo;have ba5:=Zaa kn;revert aP bfr ba5;exact Zq.1):p:=h ⟨k⟩
theorem Z2u (k:q) (h:Zh q->p:=by
 intro Zq;iterate 3 (refine Ah (fun K J=>?_);go_simp;refine J _ ?_;clear J K)
 exact Zq.1):p:=h ⟨k⟩
theorem Z2v (h:p:=by
 have cv:decide ((16:Int) <pl)=false:=Zhs yE;have j5:=Zaa fun X=>Aa7 ch cg X
 have U:=Bm a1 yF;have i5:=Bm be yF;refine Z0x ?_;intro d0 d1 d2 d3 d4 d5 d6 d7;simp only[Zac]at d0 d1 d2 d3 d4 d5 d6 d7;have lS:=be 0 _ rfl;simp only[Zac]at lS;go_enter func185,ntmps185
 go_wp2_with fail
 refine(Hq _ _ _ _ yH yH).mono ?_;rintro e dq ⟨rfl,rfl⟩;go_wp2_with fail
 refine(j5.out _).mono ?_;exact Z3H):p:=h
theorem Z2w (k:q) (h:Zh q->p:=by
 intro Zq;have ck:=Zaa (dv.there bc yJ);have hs:=Zaa dv;have o6:=Zaa hy;have bp:=af.size;revert ck hs o6 bp;exact Zq.1):p:=h ⟨k⟩
theorem Z2x (k:q) (h:Zh q->p:=by
 intro Zq;obtain⟨W,bm⟩:=zL (((w.alloc (.cells #[s.Aj,.slice ei s.An ej,.slice hd s.Ac e9] 30)).alloc (.cells #[r.kind,r.Bh,r.Bp,z0,b9,z2,z3,z4,z5,cc,.slice bg bk z9,r.text,r.Az,.slice bn r.Aw br,r.A3,r.Bl] 48)).alloc (.cells #[total] 3));have el:Below w w W:=vF;have na:W.heap.size=w+3:=xG;have c4:W.rangeAt w 0 [s.Aj,.slice ei s.An ej,.slice hd s.Ac e9]:=by
  exact Z1j
 have dt:W.rangeAt (w+1) 0 [r.kind,r.Bh,r.Bp,z0,b9,z2,z3,z4,z5,cc,.slice bg bk z9,r.text,r.Az,.slice bn r.Aw br,r.A3,r.Bl]:=by
  exact Z1h
 have du:W.rangeAt (w+2) 0 [total]:=by
  exact Z1g
 revert W bm el na c4 dt du;exact Zq.1):p:=h ⟨k⟩
theorem Z2y (h:p:=by
 go_wp2_with fail
 go_ret;exact⟨rfl,below_drewN c7 c7.size _⟩):p:=h
theorem Z2z (h:p:=by
 have c3:=Zaa ia;obtain⟨ei,ej,rfl,-⟩:=ih;have U:=Bm a1 yF;have i5:=Bm be yF;have dS:=Bm hy yF;clear ia;refine Z3Y ?_;intro en bz bo;simp only[Zac]at en bz bo;have d1:=a1 1 _ rfl;simp only[Zac]at d1;go_enter func187,ntmps187
 go_wp2_with fail
 refine Z54 ?_;rintro e a8 ⟨rfl,aa⟩;have b7:=Aa a1 aa U;have c4:=b7 0 _ rfl;simp only[Zac]at c4;have m0:=Aa be aa i5 0 _ rfl;simp only[Zac]at m0;clear d1 en bz bo;exact Z0F):p:=h
theorem Z2A (k:q) (h:Zh q->p:=by
 intro Zq;obtain⟨W,bm⟩:=zL (((w.alloc (.cells #[s.Aj,v,.slice (some ⟨b,o,none⟩) s.Ac bb] 30)).alloc (.cells #[i] 3)).alloc (.cells #[x.name,.slice fp x.Ai rc] 37));have el:Below w w W:=vF;have na:W.heap.size=w+3:=xG;have c4:W.rangeAt w 0 [s.Aj,v,.slice (some ⟨b,o,none⟩) s.Ac bb]:=by
  exact Z1j
 have dt:W.rangeAt (w+1) 0 [i]:=by
  rw[<-bm];have:=Aa (Ae (w.alloc (.cells #[s.Aj,v,.slice (some ⟨b,o,none⟩) s.Ac bb] 30)) [i] 3) (Af (.cells #[x.name,.slice fp x.Ai rc] 37)) yF;exact Z1z
 have du:W.rangeAt (w+2) 0 [x.name,.slice fp x.Ai rc]:=by
  exact Z1D
 revert W bm el na c4 dt du;exact Zq.1):p:=h ⟨k⟩
theorem Z2B (k:q) (h:Zh q->p:=by
 intro Zq;refine(bc _ c0).mono ?_;rintro e a8 ⟨rfl,zt⟩;have aa:=c0.trans (zt.mono c0.size);have b7:=Aa df zt (by exact gh);have bje:=b7 0 _ rfl;have bjf:=b7 1 _ rfl;have bjg:=b7 2 _ rfl;have bjh:=b7 3 _ rfl;have bji:=b7 4 _ rfl;have bjj:=b7 5 _ rfl;have bjk:=b7 6 _ rfl;have bjl:=b7 7 _ rfl;simp only[Zac]at bje bjf bjg bjh bji bjj bjk bjl;revert a8 zt aa b7 bje bjf bjg bjh bji bjj bjk bjl;exact Zq.1):p:=h ⟨k⟩
theorem Z2C (h:p:=by
 rintro kk k args X K a7 hI ⟨nz,es,rfl,lg⟩ J;refine Z0y ?_;gi_wp2_with fail
 exact J _ _ (Zdb _ _) (Cg.refl _ _ _ _) hI ⟨_,rfl⟩):p:=h
theorem Z2D (k:q) (h:Zh q->p:=by
 intro Zq;obtain⟨W,bm⟩:=zL (((w.alloc (.cells #[s.Aj,.slice (some ⟨b,o,none⟩) s.An bb,u] 30)).alloc (.cells #[i] 3)).alloc (.cells #[x.name,x.number,x.text,.float .f64 x.float] 53));have el:Below w w W:=vF;have na:W.heap.size=w+3:=xG;have c4:W.rangeAt w 0 [s.Aj,.slice (some ⟨b,o,none⟩) s.An bb,u]:=by
  exact Z1j
 have dt:W.rangeAt (w+1) 0 [i]:=by
  exact Z1w
 have du:W.rangeAt (w+2) 0 [x.name,x.number,x.text,.float .f64 x.float]:=by
  exact Z1v
 revert W bm el na c4 dt du;exact Zq.1):p:=h ⟨k⟩
theorem Z2E (k:q) (h:Zh q->p:=by
 intro Zq;obtain⟨ad,dj⟩:=zL ((w.alloc (.cells #[b,.slice bn e4 br,.slice bq o4 bb] 30)).alloc (.cells Gf.toArray 62));have az:ad.heap[w.heap.size]? =some (.cells #[b,.slice bn e4 br,.slice bq o4 bb] 30 (0,0)):=sJ;have bl:ad.heap[w.heap.size+1]? =some (.cells Gf.toArray 62 (0,0)):=sN;have af:Below w w ad:=tY;have ao:w.heap.size+2<=ad:=by rw[<-dj];simp
 have a1:=A4 az;have d0:=a1 0 _ rfl;have d1:=a1 1 _ rfl;have d2:=a1 2 _ rfl;simp only[Zac]at d0 d1 d2;have hC:=h ad af;have c3:=Zaa hC;have ly:=Zaa dj;have ho:=Zaa bl;revert ad dj az bl af ao a1 d0 d1 d2 hC c3 ly ho;exact Zq.1):p:=h ⟨k⟩
theorem Z2F (h:p:=by
 go_roundw
 case rel=>exact⟨dp+1,yE,yK,wB,U.trans al⟩
 case measure=>simp[intOf];omega):p:=h
theorem Z2G (h:p:=by
 gi_wp2_with fail
 refine⟨trivial,((Lw (r:=some kk)).2 ia).mono ?_⟩;rintro e o7 ⟨rfl,eo⟩;gi_wp2_with fail
 have fa:Cg n a8 (ag+2) X o7:=Cg.below eo (Zab _);exact⟨Zda (row:=none) ⟨eo.os,eo.tape,eo.output,eo.size,fun k a7 _=>eo.block k a7⟩ (fun r e=>yW),fa,(eo.block _ hI.1.lt).trans hI.1,hI.2.trans (eo.mono hI.2.size)⟩):p:=h
theorem Z2H (h:p:=by
 intro w P lo b6 mt bf lb an s0 s1 s2 pw ji bl au cl da;have c3:=Zaa (h w P lo b6 mt bf lb an s0 s1 s2 bl au);have dg:=cl.cell (j:=0) rfl;have dm:=cl.cell (j:=1) rfl;have aq:=da.cell (j:=0) rfl;clear h bl au;go_enter func35,ntmps35
 go_wp2_with fail
 refine Z0P ?_;rintro e ad ⟨rfl,h2,fa⟩;go_wp2_with fail
 go_end0
 exact⟨rfl,h2,fa⟩):p:=h
theorem Z2I (h:p:=by
 have c2:=Zaa el;clear i0 el;go_enter func121,ntmps121
 exact Z0b):p:=h
theorem Z2J (h:p:=by
 rintro e ad ⟨rfl,af⟩;go_wp2_with fail
 go_ret;exact⟨rfl,aa.trans (af.mono aa.size)⟩):p:=h
theorem Z2K (k:q) (h:Zh q->p:=by
 intro Zq;have ht:=Zaa hI;have dv:=ff.out.below (C5.Ab Bz.Ab _ _) bt (Zab _);have hs:=Zaa dv;have bp:=bt.size;revert ht dv hs bp;exact Zq.1):p:=h ⟨k⟩
theorem Z2L (h:p:=by
 exact Tree.In.B8 (B:=0) X _ none lg (Zhf X _ none) (fun r e=>yW)):p:=h
theorem Z2M (h:p:=by
 rintro e X ⟨⟨v,rfl⟩,⟨ae,be,c1⟩ | ⟨c,ae,be,c1⟩⟩
 ·exact⟨none,_,Zie (P:=P) be (by simp[la]),kO _ ((hI N).put ae yE be rfl _) ((Zhj yE).trans c1)⟩
 exact⟨some c,_,Zie (P:=P) be (by simp[la]),bmf c _ ((w4 c).put ae yE be rfl _) ((Zhj yE).trans c1)⟩):p:=h
theorem Z2N (k:q) (h:Zh q->p:=by
 intro Zq;have bt:Below wr wr ay:=wH;have np:ay.heap.size=wr+1:=xS;revert bt np;exact Zq.1):p:=h ⟨k⟩
theorem Z2O (k:q) (h:Zh q->p:=by
 intro Zq;obtain⟨ad,dj,hA,dx,af,ao⟩:=Pv w [b,.slice bn e4 br,.slice bq o4 bb] [b',.slice vv wz vx,.slice tv wy sy];have d0:=hA 0 _ rfl;have d1:=hA 1 _ rfl;have d2:=hA 2 _ rfl;simp only[Zac]at d0 d1 d2;have hC:=h ad af;have c3:=Zaa hC;revert ad dj hA dx af ao d0 d1 d2 hC c3;exact Zq.1):p:=h ⟨k⟩
theorem Z2P (h:p:=by
 try rw[k8]at cj
 rw[<-tc.out]at cj;go_roundw
 case rel=>exact⟨i+1,yE,yK,cj,c7.trans al⟩
 case measure=>simp[intOf];omega):p:=h
theorem Z2Q (k:q) (h:Zh q->p:=by
 intro Zq;have yb:o7.heap[w.heap.size+1]? =some (.loop {la .ready none with state:=.busy}):=Zhk ao;have iM:o7.heap[w.heap.size]? =some (.deferred (some [])):=(Zhj yE).trans bl4;revert yb iM;exact Zq.1):p:=h ⟨k⟩
theorem Z2R (k:q) (h:Zh q->p:=by
 intro Zq;have xm:=U.size;have hle:=It s i;have k1:=Zaa hle;clear hle;have lu:((0+Tree.Cm (s.take i):Nat):Int)<=100010001:=wY;revert xm k1 lu;exact Zq.1):p:=h ⟨k⟩
theorem Z2S (k:q) (h:Zh q->p:=by
 intro Zq;rintro e a8 ⟨rfl,aa⟩;have b7:=Aa df aa yF;have c7:=c0.trans (aa.mono c0.size);revert a8 aa b7 c7;exact Zq.1):p:=h ⟨k⟩
theorem Z2T (k:q) (h:Zh q->p:=by
 intro Zq;have re:ag.heap.size=a8+2:=xK;have al:Below w w ag:=rD;have yv:ag.rangeAt (a8+1) 0 [z0,b9,z2,z3,z4,z5,cc,.slice bg bk z9]:=by
  rw[<-cr];have:=Ae (a8.alloc (.cells #[zE] 3)) [z0,b9,z2,z3,z4,z5,cc,.slice bg bk z9] 43;exact Z1z
 have kx:Boxed ag a8 3 (.int .i64 0):=by
  exact Z22
 have vj:=b8.below (al.mono ah);revert re al yv kx vj;exact Zq.1):p:=h ⟨k⟩
theorem Z2U (k:q) (h:Zh q->p:=by
 intro Zq;(refine Ad (fun K J=>?_);go_simp;refine J _ ?_;clear J K)
 exact Zq.1):p:=h ⟨k⟩
theorem Z2V (k:q) (h:Zh q->p:=by
 intro Zq;rintro e ad ⟨rfl,af⟩;have ha:=Aa b7 af yE;have p3:=Aa n9 af yE;have so:Below w w ad:=uj.trans (af.mono yE);have bnj:=ha 0 _ rfl;have bnk:=ha 1 _ rfl;have bnl:=ha 2 _ rfl;have bnm:=ha 3 _ rfl;have bnn:=ha 4 _ rfl;revert ad af ha p3 so bnj bnk bnl bnm bnn;exact Zq.1):p:=h ⟨k⟩
theorem Z2W (k:q) (h:Zh q->p:=by
 intro Zq;have ht:=Zaa hI;have dv:=ff.out.below (A2.Ab Cz.Ab _) fx (Zab _);have hs:=Zaa dv;have bp:=fx.size;revert ht dv hs bp;exact Zq.1):p:=h ⟨k⟩
theorem Z2X (h:p:=by
 go_wp2_with fail
 go_roundw
 case rel=>exact⟨i+1,_,u,g,yE,yK,rfl,rfl,ff.out.below (A2.Ab B2.Ab _) c9 (Zab _),dw.out.skip yE,c2.out.trans (c9.mono yE)⟩
 case measure=>simp[intOf];omega):p:=h
theorem Z2Y (h:p:=by
 have:=af.size;rcases U with U | U
 ·exact⟨⟨yQ,U.1.2⟩,U.2⟩
 exact⟨⟨U.2,yE⟩,yE⟩):p:=h
theorem Z2Z (k:q) (h:Zh q->p:=by
 intro Zq;have d0:=a1 0 _ rfl;have d1:=a1 1 _ rfl;have d2:=a1 2 _ rfl;revert d0 d1 d2;exact Zq.1):p:=h ⟨k⟩
theorem Z30 (k:q) (h:Zh q->p:=by
 intro Zq;have c0:Below w w dq:=wL;have gh:dq.heap.size=w+2:=xY;revert c0 gh;exact Zq.1):p:=h ⟨k⟩
theorem Z31 (h:p:=by
 exact Z3U):p:=h
theorem Z32 (h:p:=by
 clear c3 qz blq blr fc;go_wp2_with fail
 refine bsm.out.mono ?_;rintro e bs ⟨rfl,h7,gw⟩;have bxu:=cal.out;go_wp2;exact⟨⟨k+1,ao,yK,h7,cC.trans gw⟩,xJ⟩):p:=h
theorem Z33 (h:p:=by
 clear h cl i0 We ll ox;go_enter func195,ntmps195
 go_wp2_with fail
 refine Z54 ?_;rintro e a8 ⟨rfl,aa⟩;have c4:=Aa a1 aa U 0 _ rfl;clear d1 en bz bo;exact Z0F):p:=h
theorem Z34 (k:q) (h:Zh q->p:=by
 intro Zq;have d8:=aq 8 _ rfl;have d9:=aq 9 _ rfl;have d10:=aq 10 _ rfl;have d11:=aq 11 _ rfl;have d12:=aq 12 _ rfl;have d13:=aq 13 _ rfl;have d14:=aq 14 _ rfl;have d15:=aq 15 _ rfl;revert d8 d9 d10 d11 d12 d13 d14 d15;exact Zq.1):p:=h ⟨k⟩
theorem Z35 (k:q) (h:Zh q->p:=by
 intro Zq;refine(Lr [z0,.float .f64 b9,z2,z3,.slice bg bk z9] _).mono ?_;rintro e ag ⟨rfl,cr⟩;revert ag cr;exact Zq.1):p:=h ⟨k⟩
theorem Z36 (h:p:=by
 rw[<-bm];have:=Ae (w.alloc (.cells #[s.Aj,.slice ei s.An ej,.slice (some ⟨b,o,none⟩) s.Ac e9] 30)) [zG,i,k,zG,zG] 142;exact Z1z):p:=h
theorem Z37 (k:q) (h:Zh q->p:=by
 intro Zq;have zy:(Value.slice ak (ai++[cs]).length ax).ownBlock=v.ownBlock\/∃g,(Value.slice ak (ai++[cs]).length ax).ownBlock=some g/\w.heap.size<=g:=
  i3.imp id fun h=>⟨_,h,yF⟩
 revert zy;exact Zq.1):p:=h ⟨k⟩
theorem Z38 (h:p:=by
 obtain rfl:i=s:=by omega
 refine Z1e ?_;intro fe;gi_wp2_with fail
 exact wb _ Ds _ fz.nd fz.Kb (.inl (by simpa[Tree.size,Zbk]using bk5))):p:=h
theorem Z39 (h:p:=by
 go_wp2_with fail
 go_roundw
 case rel=>exact⟨i+1,bw,yE,yK,tK,ff.out,sh.out,vz.out,c2.out⟩
 case measure=>simp[intOf];omega):p:=h
theorem Z3a (h:p:=by
 go_wp2_with fail
 go_ret;exact⟨rfl,U⟩):p:=h
theorem Z3b (h:p:=by
 obtain rfl:i=l:=by omega
 refine Z1q ?_;intro fe;rw[Zbk]at c6;go_wp2_with fail
 go_ret;exact⟨_,rfl,c6.fresh hI,U⟩):p:=h
theorem Z3c (k:q) (h:Zh q->p:=by
 intro Zq;have bh:=ab.2 1 _ rfl;have cq:=ab.2 2 _ rfl;have ed:=ab.2 3 _ rfl;have ez:=ab.2 4 _ rfl;revert bh cq ed ez;exact Zq.1):p:=h ⟨k⟩
theorem Z3d (k:q) (h:Zh q->p:=by
 intro Zq;have d0:=Aa h1 U yE 0 _ rfl;have d1:=Aa h1 U yE 1 _ rfl;revert d0 d1;exact Zq.1):p:=h ⟨k⟩
theorem Z3e (k:q) (h:Zh q->p:=by
 intro Zq;have g0:=g.cell (j:=0) rfl;have g1:=g.cell (j:=1) rfl;have g2:=g.cell (j:=2) rfl;have g3:=g.cell (j:=3) rfl;have g4:=g.cell (j:=4) rfl;have g5:=g.cell (j:=5) rfl;have g6:=g.cell (j:=6) rfl;have g7:=g.cell (j:=7) rfl;revert g0 g1 g2 g3 g4 g5 g6 g7;exact Zq.1):p:=h ⟨k⟩
theorem Z3f (h:p:=by
 have:=cm.size;exact Tree.A6.mono (Tree.A6.block k2.out (fun b U=>cm.block b U.2.1 yJ)) fun b U=>⟨yE,yE⟩):p:=h
theorem Z3g (h:p:=by
 go_roundw
 case rel=>exact⟨j+1,yE,yK,U.trans (n6.mono U.size)⟩
 case measure=>simp[intOf];omega):p:=h
theorem Z3h (k:q) (h:Zh q->p:=by
 intro Zq;have hw:Region.wanted o (yielded ops a.tmps)=true:=vJ;revert hw;exact Zq.1):p:=h ⟨k⟩
theorem Z3i (h:p:=by
 have xl:¬((u:Int)*3<=16):=by omega
 exact Z0m):p:=h
theorem Z3j (h:p:=by
 have xl:¬((u:Int)*2<=16):=by omega
 exact Z0m):p:=h
theorem Z3k (h:p:=by
 refine Z0W ?_;exact⟨hI,Zai _ _,b,h1,rfl,h3⟩):p:=h
theorem Z3l (h:p:=by
 rintro e a8 ⟨rfl,aa⟩;go_wp2_with fail
 go_ret;exact⟨rfl,c0.trans (aa.mono c0.size)⟩):p:=h
theorem Z3m (k:q) (h:Zh q->p:=by
 intro Zq;refine hr.out.mono ?_;rintro e a8 ⟨rfl,aa⟩;have bck:=Aa a1 aa U 14 _ rfl;have bfq:=Aa a1 aa U 15 _ rfl;revert a8 aa bck bfq;exact Zq.1):p:=h ⟨k⟩
theorem Z3n (h:p:=by
 try simp only[Zaf,Zac,Zba]at aq bh cq ed ez ja jh jd nt oi vo vp vq sc vr vt
 go_simp):p:=h
theorem Z3o (h:p:=by
 rintro e a8 ⟨rfl,rfl⟩;exact Z0G):p:=h
theorem Z3p (h:p:=by
 go_wp2_with fail
 refine hI.out.mono ?_;rintro e w' ⟨rfl,hw⟩;subst w';exact Z0G):p:=h
theorem Z3q (h:p:=by
 obtain⟨qm,bbk,cA⟩:∃j:Nat,(M:Int)%4=(j:Int)/\j<4:=⟨M%4,yE,yE⟩;have wa:(qm:Int) <4:=yE;have bxk:(M:Int).tmod 4=(qm:Int):=uU;obtain⟨s,b0⟩:∃s,Cv[qm]? =some s:=⟨_,Zam (show qm<Cv from cA)⟩;have j7:s∈Cv:=Zax b0;have xi:(Cv.map Value.string)[qm]? =some (.string s):=xF;have bI:=Zaa xi;clear b0 xi;go_wp2_with fail
 have ee:(ay.drewN 1).heap=ay.heap:=Zhg _ _;have c9:Below ay ay (ay.drewN 1):=(Zai _ _).grown (B5 _ 1 none) (Zab _) yF;have jm:(ay.drewN 1).rangeAt wr 0 [.int .u8 Y,.int .u8 M,.int .u64 B]:=Ag yi.out yO;have j4:(ay.drewN 1).heap.size=ay.heap.size:=yO;refine J7 [(0,.inl none),(2,.inl none),(3,.inl (some 0)),(4,.inl none),(1,.inr [0,1]),(5,.inl none),(6,.inl (some 1)),(7,.inr []),(8,.inr []),(9,.inr []),(10,.inl none)]
  (fun k W=>(k=0->W.rangeAt wr 0 [.int .u8 Y,.int .u8 M,.int .u64 B])/\(k=1->W.rangeAt (ay.drewN 1).heap.size 0 (Cv.map Value.string))) [0] yG yG (fun k a7=>sX) ?_
 simp only[Bi,Zak,Zan,Zah,Zad,Zae,Zaj];generalize ay.drewN 1=bd at c9 jm j4|-;have ri:=Zaa jm;clear ee jm d0 d1 d2 dg dm cd;refine Z01 ?_;refine Av (.int .u8 M) yI (fun w' ab=>?_) (fun K J=>?_)
 ·have bh:=ab.1 rfl 1 _ rfl
  exact Z15
 refine Z42 ?_;clear J K;refine Z2m ?_;refine Cy rfl (fun K J=>?_);go_wp2_with fail
 refine(Vr _).mono ?_;rintro e w' ⟨rfl,rfl⟩;go_wp2_with fail
 have x6:(bd.alloc (.cells #[Value.string nX,nY,nZ,nL] 9)).rangeAt bd 0 (Cv.map Value.string):=Ae bd _ 9;have bj:Below bd bd (bd.alloc (.cells #[Value.string nX,nY,nZ,nL] 9)):=Af _;have qu:=Aa ri.out bj yE;refine J _ _ (Js ⟨fun _=>qu,fun _=>x6⟩ ⟨fun _=>qu,fun _=>x6⟩) ?_;clear J K x6 qu;have l9:(bd.alloc (.cells #[Value.string nX,nY,nZ,nL] 9)).heap.size=bd.heap.size+1:=yF;generalize bd.alloc (.cells #[Value.string nX,nY,nZ,nL] 9)=b3 at bj l9|-;refine Z2m ?_;refine Av (.string s) yI (fun w' ab=>?_) (fun K J=>?_)
 ·have bh:=ab.2 rfl qm _ bI.out
  rw[j4,np]at bh;exact Z15
 refine Z42 ?_;clear J K;refine Cy rfl (fun K J=>?_);go_wp2_with fail
 refine(Z8 _ _).mono ?_;rintro e bs ⟨rfl,e5⟩;go_wp2_with fail
 refine J _ _ yF ?_;clear J K;have bdy:Below ay ay bs:=c9.trans ((bj.mono yE).trans (e5.mono yE));have hI:A2 Cz (w+1) bs (fun b=>b<bs/\some b≠(Value.slice e6 q gc).ownBlock) (.node ⟨9,0,s,0⟩ []) [.int .u8 9,zD,.string s,zE,zH]:=Tree.A6.shut (E:=Df.cells) (l:=⟨9,0,s,0⟩) (Zap _) (.inl rfl);have ht:=Zaa hI;have dv:=ff.out.below (A2.Ab Cz.Ab _) bdy (Zab _);have hs:=Zaa dv;have bp:=bdy.size;clear hI dv;refine Cy rfl (fun K J=>?_);go_wp2_with fail
 refine J _ _ yF ?_;clear J K;refine Cy rfl (fun K J=>?_);refine Am (A2.Ab Cz.Ab _) rfl _ _ 116 rfl (w.heap.size+1) 118 5 64 Ep Eu yH p _ rfl hs.out _ _ rfl yE ht.out rfl yL im.out.1 im.out.2 yE ?_;intro ak ax k0 cj jt al i2 ek _;refine Z4P ?_;clear J K;refine Z2m ?_;refine C7 ?_;go_wp2_with fail
 go_roundw
 case rel=>exact⟨i+1,p++[.node ⟨9,0,s,0⟩ []],yE,yK,cj,dw.out.leaf (Yo _ j7) rfl,c2.out.trans ((bdy.mono yE).trans (al.mono yE))⟩
 case measure=>simp[intOf];omega):p:=h
theorem Z3r (h:p:=by
 clear bh4;clear ee jm gk w9 kq qh aO gM hC ma bdm jw;refine Z00 ?_;refine Z00 ?_;refine Z4w ?_;refine Av (.agg #[e1,t0,t1,t2,t3,dy,gg,.slice ie j0 gq]) yI (fun w' ab=>?_) (fun K J=>?_)
 ·have aq:=ab.1 0 _ rfl
  exact Z1t
 refine Z42 ?_;clear J K;refine Z4w ?_;refine Av (.agg #[ep,v0,v1,v2,v3,fg,gi,.slice bn e4 br]) yI (fun w' ab=>?_) (fun K J=>?_)
 ·have aq:=ab.2 0 _ rfl
  refine Z0X ?_;intro bh cq ed ez ja jh jd;simp only[Zaf]at aq;go_simp
 refine Z42 ?_;clear J K;refine Cy rfl (fun K J=>?_);go_wp2_with fail
 refine Z54 ?_;rintro e b3 ⟨cx,rfl,pf,bj⟩;obtain⟨⟨W0,ql,tt,uy,z6,W2,Wd⟩,W1⟩:=di;obtain⟨er,cp,rfl⟩:=C3 pf;go_wp2_with fail
 refine J _ _ yF ?_;clear J K;have ni:=bi2.out.below (A2.Ab B2.Ab _) bj (Zab _);have dP:Below ay ay b3:=c9.trans (bj.mono yE);have l9:=dP.size;have hI:A2 B2 (w+1) b3 (fun b=>b<b3) (.node ⟨W0,ql,tt,uy,z6,W2,Wd⟩ W1) [W0,ql,tt,uy,z6,W2,Wd,.slice er W1 cp]:=Tree.A6.mono pf fun b U=>by
  rcases U with U | U
  ·exact⟨yQ,U.2⟩
  exact⟨U.2,yE⟩
 have ht:=Zaa hI;have bi3:=Zaa ni;clear hI ni pf;refine Cy rfl (fun K J=>?_);refine Iq Ez E9 Q8 rfl rfl rfl rfl ?_;refine Z4P ?_;clear J K;refine Cy rfl (fun K J=>?_);refine J2 (A2.Ab B2.Ab _) rfl _ _ 41 rfl (w.heap.size+1) 43 8 80 Ez E9 yH _ _ _ _ bc rfl bi3.out yJ _ [W0,ql,tt,uy,z6,W2,Wd,.slice er W1 cp] rfl rfl ht.out rfl yL yP yE yE ?_;intro ak ax k0 rk kJ mb sb;refine Z4P ?_;clear J K;have ban:(aq++[Tree.node ⟨e1,t0,t1,t2,t3,dy,gg⟩ j0]++[Tree.node ⟨ep,v0,v1,v2,v3,fg,gi⟩ e4]).take bc=aq:=sC;rw[ban]at rk;have bcs:=Zaa rk;clear rk ban;refine Z2m ?_;refine C7 ?_;go_wp2_with fail
 go_roundw
 case rel=>exact⟨i+1,aq++[(.node ⟨W0,ql,tt,uy,z6,W2,Wd⟩ W1)],u,g,yE,yK,rfl,rfl,bcs.out,q8.out,c2.out.trans ((dP.mono yE).trans (mb.mono yE))⟩
 case measure=>simp[intOf];omega):p:=h
theorem Z3s (k:q) (h:Zh q->p:=by
 intro Zq;simp only[Bi,Zak,Zan,Zah,Zad,Zae,Zaj];exact Zq.1):p:=h ⟨k⟩
theorem Z3t (k:q) (h:Zh q->p:=by
 intro Zq;iterate 2 (refine Ah (fun K J=>?_);go_simp;refine J _ ?_;clear J K)
 exact Zq.1):p:=h ⟨k⟩
theorem Z3u (k:q) (h:Zh q->p:=by
 intro Zq;obtain⟨a8,ba⟩:=zL (w.alloc (.cells #[s.Aj,.slice ei s.An ej,.slice hd s.Ac e9] 30));obtain⟨ad,dj⟩:=zL (a8.alloc (.cells #[r.kind,r.Bh,r.Bp,z0,b9,z2,z3,z4,z5,cc,.slice bg bk z9,r.text,r.Az,.slice bn r.Aw br,r.A3,r.Bl] 48));revert a8 ba ad dj;exact Zq.1):p:=h ⟨k⟩
theorem Z3v (h:p:=by
 refine Z4v ?_;clear J K;obtain⟨e8,dz,rfl,-⟩:=aJ.shape;obtain⟨ot,nh,rfl,-⟩:=tj.shape;have aq:=eW.cell (j:=0) rfl;have f0:=eW.frozen 0;refine A1 rfl (fun K J=>?_);go_wp2_with fail
 refine Z4v ?_;clear J K aq f0;have xu:=eW.set 0 (.slice e8 1 dz);have jx:=As bB ad 0 (.slice e8 1 dz);generalize bB.setCell ⟨ad,0,none⟩ (.slice e8 1 dz)=bcj at xu jx|-;have bh:=xu.cell (j:=1) rfl;have f1:=xu.frozen 1;refine Z04 ?_;exact Z2q):p:=h
theorem Z3w (k:q) (h:Zh q->p:=by
 intro Zq;have c8:Below w w (wr.drewN 1):=U.grown (B5 _ 1 none) U.size yF;have w6:(wr.drewN 1).heap[w.heap.size]? =some (.cells zV 43 (0,0)):=by rw[ee];exact bl
 have hq:=Zaa a1;have p4:=Zaa ix;have xw:=Zaa w6;revert c8 w6 hq p4 xw;exact Zq.1):p:=h ⟨k⟩
theorem Z3x (k:q) (h:Zh q->p:=by
 intro Zq;iterate 3 (refine Ah (fun K J=>?_);go_simp;refine J _ ?_;clear J K)
 exact Zq.1):p:=h ⟨k⟩
theorem Z3y (k:q) (h:Zh q->p:=by
 intro Zq;refine J _ _ yF yF ?_;exact Zq.1):p:=h ⟨k⟩
theorem Z3z (h:p:=by
 obtain⟨fn,tmps,assign,body,hy,bl⟩:=iG a8 _ ao ⟨_,k8,rfl⟩ blh;gi_wp2_with fail
 refine⟨fun h=>yT,bl.mono ?_⟩;rintro e bd (⟨rfl,cA,qx⟩ | ⟨rfl,cB,qx⟩)
 ·gi_wp2_with fail
  exact Z1T
 gi_wp2_with fail
 exact⟨_,Zid rfl _ _ _,⟨_,rfl⟩,.inr cB⟩):p:=h
theorem Z3A (k:q) (h:Zh q->p:=by
 intro Zq;have cf:p≠[]:=fun e=>by have:=hv.out;rw[e]at this;simp at this;omega
 revert cf;exact Zq.1):p:=h ⟨k⟩
theorem Z3B (k:q) (h:Zh q->p:=by
 intro Zq;have aX:∀(i:Nat) (o:Obj),i<w.heap.size+2->At km (fun W=>W.heap[i]? =some o):=fun i o ae A C row h ar a6=>
  (ar.block i (Zbx.1 h).1 (fun e=>sP)).trans h
 revert aX;exact Zq.1):p:=h ⟨k⟩
theorem Z3C (h:p:=by
 have biz:=Zaa bc6;clear ec bc6;go_wp2_with fail
 all_goals
  go_ret
  exact⟨Zhr (fun z=>Ending.returned (.int .i64 z)) sL,n7⟩):p:=h
theorem Z3D (h:p:=by
 go_wp2_with (at_builtin;go_loud (refine Am Hw.Ab rfl _ _ 32 rfl w.heap.size 55 2 2 D5 Ed yH _ _ rfl c6 (⟨2,0⟩:Ct) (Ct.cells ⟨2,0⟩) rfl yF rfl rfl wA iy.out.1 iy.out.2 yE ?_;intro ak ax ag cj jt al i2 ek _))
 exact Z2F):p:=h
theorem Z3E (h:p:=by
 have d0:=h1 0 _ rfl;have d1:=h1 1 _ rfl;simp only[Zaf]at d0;have rs:(i:Int) <s.Ac.length:=yE;have c2:=Zaa el;have iv:b<w:=yE;clear e2 ko c4 dt du h1 el a1 q2;subst bm;go_enter func146,ntmps146
 exact Z0b):p:=h
theorem Z3F (k:q) (h:Zh q->p:=by
 intro Zq;have s0:=j8 0 _ rfl;have s1:=j8 1 _ rfl;have s2:=j8 2 _ rfl;have s3:=j8 3 _ rfl;have va:=j8 4 _ rfl;revert s0 s1 s2 s3 va;exact Zq.1):p:=h ⟨k⟩
theorem Z3G (h:p:=by
 refine Z2S ?_;intro a8 aa b7 c7;have ao:w.heap.size<a8:=xT;have d0:=b7 0 _ rfl;have d1:=b7 1 _ rfl;simp only[Zac]at d0 d1;go_wp2_with fail
 refine(c2.out _ b7).mono ?_;exact Z14):p:=h
theorem Z3H (h:p:=by
 rintro e a8 ⟨rfl,aa⟩;have du:=Aa a1 aa U 2 _ rfl;have m0:=Aa be aa i5 0 _ rfl;simp only[Zac]at du m0;clear d0 d1 d2 d3 d4 d5 d6 d7 lS;go_wp2_with fail
 go_ret;exact⟨rfl,aa⟩):p:=h
theorem Z3I (h:p:=by
 rintro e ag ⟨rfl,al⟩;go_wp2_with fail
 go_ret;exact⟨rfl,so.trans (al.mono so.size)⟩):p:=h
theorem Z3J (k:q) (h:Zh q->p:=by
 intro Zq;iterate 4 (refine Ad (fun K J=>?_);go_simp;refine J _ ?_;clear J K)
 exact Zq.1):p:=h ⟨k⟩
theorem Z3K (k:q) (h:Zh q->p:=by
 intro Zq;have fm:=Aa h1 U yE;have nc:=hI.below h2 (U.mono ah);have j7:=Zat ao;have gW:l.take (i+1)=l.take i++[l[i]]:=Zay ao;have tc:=Zaa gW;revert fm nc j7 gW tc;exact Zq.1):p:=h ⟨k⟩
theorem Z3L (k:q) (h:Zh q->p:=by
 intro Zq;refine(Lc [z0,b9,z2,z3,z4,z5,cc,.slice bg bk z9] _).mono ?_;rintro e ag ⟨rfl,cr⟩;revert ag cr;exact Zq.1):p:=h ⟨k⟩
theorem Z3M (k:q) (h:Zh q->p:=by
 intro Zq;have qy:=bbl.same _ _ yE be rfl;have bl4:=bbl.same _ _ (Zab _) c1 rfl;have ao:w.heap.size+1<bak.heap.size:=(Zbx.1 qy).1;revert qy bl4 ao;exact Zq.1):p:=h ⟨k⟩
theorem Z3N (h:p:=by
 have ft:=Zaa ec;clear ec;go_wp2_with fail
 all_goals
  go_ret
  exact⟨Zhr (fun z=>Ending.returned (.int .i64 z)) (by rw[ft.out];omega),n7⟩):p:=h
theorem Z3O (k:q) (h:Zh q->p:=by
 intro Zq;have ox:=(af.block w yE).trans hv.out;have me:=(af.block (w+1) yE).trans ho.out;have ha:=Aa hq.out af yE;have eF:=af.size;revert ox me ha eF;exact Zq.1):p:=h ⟨k⟩
theorem Z3P (k:q) (h:Zh q->p:=by
 intro Zq;have aq:=e3.cell (j:=0) rfl;have bh:=e3.cell (j:=1) rfl;have cq:=e3.cell (j:=2) rfl;have ed:=e3.cell (j:=3) rfl;revert aq bh cq ed;exact Zq.1):p:=h ⟨k⟩
theorem Z3Q (k:q) (h:Zh q->p:=by
 intro Zq;have dg:=fi.cell (j:=0) rfl;have dm:=fi.cell (j:=1) rfl;have cd:=fi.cell (j:=2) rfl;have et:=fi.cell (j:=3) rfl;revert dg dm cd et;exact Zq.1):p:=h ⟨k⟩
theorem Z3R (k:q) (h:Zh q->p:=by
 intro Zq;have bt:Below wr wr (wr.alloc (.cells [Value.string ⟨#[97]⟩,.string ⟨#[45]⟩,.string ⟨#[97,98,32]⟩,.string ⟨#[0,255]⟩,.string ⟨#[49,50]⟩].toArray 9)):=Af _;revert bt;exact Zq.1):p:=h ⟨k⟩
theorem Z3S (k:q) (h:Zh q->p:=by
 intro Zq;have el:Below w w ((w.alloc (.cells #[s.Aj,.slice ei s.An ej,.slice hd s.Ac e9] 30)).alloc (.cells #[zG,i,zG,zG,zG] 142)):=(Af _).alloc yF _;revert el;exact Zq.1):p:=h ⟨k⟩
theorem Z3T (k:q) (h:Zh q->p:=by
 intro Zq;have el:Below w w ((w.alloc (.cells #[s.Aj,.slice ei s.An ej,.slice hd s.Ac e9] 30)).alloc (.cells #[i,zG,zG,zG,zG] 142)):=(Af _).alloc yF _;revert el;exact Zq.1):p:=h ⟨k⟩
theorem Z3U (h:p:=by
 rintro e ad ⟨rfl,af⟩;go_wp2_with fail
 go_ret;exact⟨rfl,c7.trans (af.mono c7.size)⟩):p:=h
theorem Z3V (h:p:=by
 have c2:=Zaa el;clear bl c4 dt du el i0 qg b8;subst bm;go_enter func147,ntmps147
 exact Z0b):p:=h
theorem Z3W (h:p:=by
 go_wp2_with fail
 refine Z2B ?_;intro a8 zt aa b7 bje bjf bjg bjh bji bjj bjk bjl;exact Z0F):p:=h
theorem Z3X (k:q) (h:Zh q->p:=by
 intro Zq;refine(Jq _ _).mono ?_;rintro e ad ⟨rfl,af⟩;have fx:Below ay ay ad:=aa.trans (af.mono xA);revert ad af fx;exact Zq.1):p:=h ⟨k⟩
theorem Z3Y (k:q) (h:Zh q->p:=by
 intro Zq;have en:=hy 0 _ rfl;have bz:=hy 1 _ rfl;have bo:=hy 2 _ rfl;revert en bz bo;exact Zq.1):p:=h ⟨k⟩
theorem Z3Z (k:q) (h:Zh q->p:=by
 intro Zq;refine Ah (fun K J=>?_);refine Z2n ?_;clear J K;exact Zq.1):p:=h ⟨k⟩
theorem Z40 (h:p:=by
 clear gw fo k4 bu ps i0 bl u3 u4;refine Av (.agg #[s.Aj,.slice ei s.An ej,.slice (some ⟨b,o,none⟩) s.Ac e9]) yI (fun w' ab=>?_) (fun K J=>?_)
 ·have aq:=ab.2.1 0 _ rfl
  exact Z1b
 refine Z4I ?_;clear J K;refine Av (.agg #[r.kind,r.Bh,r.Bp,z0,b9,z2,z3,z4,z5,cc,.slice bg bk z9,r.text,r.Az,.slice gz r.Aw ac,r.A3,r.Bl]) yI (fun w' ab=>?_) (fun K J=>?_)
 ·have aq:=ab.2.2.2 0 _ rfl
  exact Z0j
 refine Z4I ?_;clear J K;refine Z01 ?_;refine Av (.int .i64 i) yI (fun w' ab=>?_) (fun K J=>?_)
 ·have bh:=ab.2.2.1 1 _ rfl
  exact Z18
 refine Z4I ?_;clear J K;refine Z2m ?_;refine Av (.slice (some ⟨bnc,bzh,none⟩) x.Ai bzj) yI (fun w' ab=>?_) (fun K J=>?_)
 ·have aq:=Aa t1 ab.1 byp 0 _ rfl
  exact Z24
 refine Z4I ?_;clear J K;refine Z2m ?_;refine Av (.int .i64 k) yI (fun w' ab=>?_) (fun K J=>?_)
 ·have cq:=ab.2.2.1 2 _ rfl
  exact Z16
 refine Z4I ?_;clear J K;refine Z2m ?_;refine Av (.int .i64 (Fv s i k:Nat)) yI (fun w' ab=>?_) (fun K J=>?_)
 ·have aq:=Aa t3 ab.1 bf2 0 _ rfl
  exact Z24
 exact Z4r):p:=h
theorem Z41 (h:p:=by
 exact Z4r):p:=h
theorem Z42 (k:q) (h:Zh q->p:=by
 intro Zq;go_simp;refine J _ ?_;exact Zq.1):p:=h ⟨k⟩
theorem Z43 (k:q) (h:Zh q->p:=by
 intro Zq;have gd:IntKind.i64.wrap (bc:Int)=bc:=Zcy _ yE;have ba:IntKind.i64.wrap ((bc:Int)+2 - 1)=(bc:Int)+1:=sR;have cjy:((bc:Int)+1).toNat=bc+1:=yE;have lu:(0:Int)<=(bc:Int)+1:=yE;refine Z50 ?_;intro qv lB ry ee c9;have jm:(ay.drewN 1).rangeAt jb (bc*8) [e1,t0,t1,t2,t3,dy,gg,.slice ie j0 gq]/\(ay.drewN 1).rangeAt jb ((bc+1)*8) [ep,v0,v1,v2,v3,fg,gi,.slice bn e4 br]:=⟨Ag gk yO,Ag w9 yO⟩;have j4:(ay.drewN 1).heap.size=ay.heap.size:=yO;revert gd ba cjy lu qv lB ry ee c9 jm j4;exact Zq.1):p:=h ⟨k⟩
theorem Z44 (k:q) (h:Zh q->p:=by
 intro Zq;have c8:Below w w (w.drewN 1):=Bk (Zai _ _) 1 (Zab _);have bd0:=Zaa fun(X:zN) (az:Below w w X)=>X9 x.name x.Ai gl.Fm gl.kinds (.slice fp x.Ai rc) X X (Zab _) ((Al.Ab Bj.Ab).mono ((Al.Ab Bj.Ab).below ((Al.Ab Bj.Ab).wide bl fun k a7=>o0 k a7) az) az.size)
 have bsp:=Zaa fun(X:zN) (az:Below w w X) (cz:Value) (fh:Al Gv 10 X (fun b=>b<X) (Eg x.Ai) cz)=>Wi (Eg x.Ai) (Zag (R3 _) (by have:=gl.Fm;omega)) gl.Xi st.Bd y9 ef aw cz X X (Zab _) fh (Dr.Ab.mono (Dr.Ab.below nf az) az.size)
 have blc:(st.state:Int) <s.Ac.length:=yE;have bp:st.state<s.Ac.length:=ae;revert c8 bd0 bsp blc bp;exact Zq.1):p:=h ⟨k⟩
theorem Z45 (h:p:=by
 clear J K;have ky:=Gl bt9.out;have w8:=al.trans (cy.mono al.size);have pe:=cZ.out.below w8 xC;refine Hg rfl (D8 304 _ _ rfl (w.heap.size+3) 0 (wP R) rfl rfl uZ xD (Ja _)) yF yF (B1 ?_);have ga:=pe.fill (vs:=wP R) vE;have ml:=Cn (ve.out.trans (w8.mono ve.out.size)) (w+3) 0 (wP R) tZ yE;generalize b4.setCells (w+3) 0 (wP R)=bd at ga ml|-;go_wp2_with fail
 exact Zho (Aq rfl _ _ (w+3) 0 (wP R) rfl ga.range yG xD) rfl ⟨rfl,ml⟩):p:=h
theorem Z46 (k:q) (h:Zh q->p:=by
 intro Zq;iterate 5 (refine Ah (fun K J=>?_);go_simp;refine J _ ?_;clear J K)
 exact Zq.1):p:=h ⟨k⟩
theorem Z47 (k:q) (h:Zh q->p:=by
 intro Zq;have el:Below w w W:=wF;have na:W.heap.size=w+2:=xG;revert el na;exact Zq.1):p:=h ⟨k⟩
theorem Z48 (k:q) (h:Zh q->p:=by
 intro Zq;have ck:=Zaa qs.there;have bic:=Zaa (Agy qs qb.out (bb7.below py yE) yE ((Al.Ab D6.Ab).mono ((Al.Ab D6.Ab).below bg2.out py) py.size) (be2.trans (py.mono yE)) yE);revert ck bic;exact Zq.1):p:=h ⟨k⟩
theorem Z49 (k:q) (h:Zh q->p:=by
 intro Zq;have d0:=fm 0 _ rfl;have d1:=fm 1 _ rfl;have d2:=fm 2 _ rfl;have d3:=fm 3 _ rfl;have d4:=fm 4 _ rfl;revert d0 d1 d2 d3 d4;exact Zq.1):p:=h ⟨k⟩
theorem Z4a (k:q) (h:Zh q->p:=by
 intro Zq;simp only[wpList,Dz];exact Zq.1):p:=h ⟨k⟩
theorem Z4b (k:q) (h:Zh q->p:=by
 intro Zq;have a1:=A4 nf;have c4:=a1 0 _ rfl;have dt:=a1 1 _ rfl;have du:=a1 2 _ rfl;have hg:=a1 3 _ rfl;have nu:=a1 4 _ rfl;revert a1 c4 dt du hg nu;exact Zq.1):p:=h ⟨k⟩
theorem Z4c (k:q) (h:Zh q->p:=by
 intro Zq;have o3:=gk 0 _ rfl;have i4:=gk 1 _ rfl;have iw:=gk 2 _ rfl;have e0:=gk 3 _ rfl;have tu:=gk 4 _ rfl;have wu:=gk 5 _ rfl;have wv:=gk 6 _ rfl;have wx:=gk 7 _ rfl;revert o3 i4 iw e0 tu wu wv wx;exact Zq.1):p:=h ⟨k⟩
theorem Z4d (k:q) (h:Zh q->p:=by
 intro Zq;have sg:=Zaa fun q (a7:(Value.slice e6 i gc).ownBlock=some q)=>(c6.lt q a7).2
 revert sg;exact Zq.1):p:=h ⟨k⟩
theorem Z4e (k:q) (h:Zh q->p:=by
 intro Zq;have eU:=ba6.below mm yE;have fE:=bag.below mm yE;have zs:=bW.trans (mm.mono yE);have gR:wr.heap.size+1<=n2:=Zag lC mm.size;have iB:=bk8.below mm bk8.lt;refine J _ _ (fun _ _=>⟨eU,fE⟩) (fun _ _ _=>⟨eU,fE⟩) ?_;revert eU fE zs gR iB;exact Zq.1):p:=h ⟨k⟩
theorem Z4f (k:q) (h:Zh q->p:=by
 intro Zq;refine(Zhq (n:=5)).1 ?_;exact Zq.1):p:=h ⟨k⟩
theorem Z4g (h:p:=by
 have c2:=Zaa el;clear c4 dt du hg b1 b2 hl Kd K1 Jx X3 X4 Xa eN el i0 qe;subst bm cr dj ba;go_enter func148,ntmps148
 exact Z0b):p:=h
theorem Z4h (k:q) (h:Zh q->p:=by
 intro Zq;obtain⟨ag,cr⟩:=zL (ad.setCells w 3 [u0,.float .f64 u1,u2,u3,.slice u7 u8 u9]);have kj:ad.grownBy ag (some w.heap.size):=sS;have qi:ag.rangeAt w 3 [u0,.float .f64 u1,u2,u3,.slice u7 u8 u9]:=sD;revert ag cr kj qi;exact Zq.1):p:=h ⟨k⟩
theorem Z4i (k:q) (h:Zh q->p:=by
 intro Zq;iterate 5 (refine Ad (fun K J=>?_);go_simp;refine J _ ?_;clear J K)
 exact Zq.1):p:=h ⟨k⟩
theorem Z4j (k:q) (h:Zh q->p:=by
 intro Zq;have Jx:Below a8 a8 W:=b2.trans (K1.mono yE);have el:Below w w W:=b1.trans (Jx.mono yE);have c4:W.rangeAt w 0 [s.Aj,.slice ei s.An ej,.slice hd s.Ac e9]:=Aa wG Jx yE;revert Jx el c4;exact Zq.1):p:=h ⟨k⟩
theorem Z4k (k:q) (h:Zh q->p:=by
 intro Zq;refine wpIn_mono (bkt _ k ak o7 a7 yE ((hI k).put bld yE qy rfl _) ((hAx k ak).put bkm yE qy rfl _)) ?_;refine Z0i ?_;exact Zq.1):p:=h ⟨k⟩
theorem Z4l (k:q) (h:Zh q->p:=by
 intro Zq;refine Z0P ?_;rintro e a8 ⟨rfl,aa⟩;have b7:=Aa a1 aa U;have c4:=b7 0 _ rfl;have hg:=b7 3 _ rfl;have nu:=b7 4 _ rfl;have G1:=b7 5 _ rfl;have bD:=b7 6 _ rfl;have yg:=b7 7 _ rfl;simp only[Zac]at c4 hg nu G1 bD yg;revert a8 aa b7 c4 hg nu G1 bD yg;exact Zq.1):p:=h ⟨k⟩
theorem Z4m (h:p:=by
 refine M5 (v:=.string s) (w':=bs) rfl (by have hp:=bqh;go_simp) yF (Bg (fun h=>h)) ?_;refine Jh 51 _ _ rfl rfl (by simp only[Zev,Zbi,Zeu];exact U6 s) (fun K J=>?_);refine J _ ?_;clear J K;refine Jh 53 _ _ rfl rfl (by simp only[Zev,Zbi,Zeu];exact Rp gb s false 0) (fun K J=>?_);refine J _ ?_;clear J K;refine P6 Dy.Ab rfl rfl rfl rfl _ _ 27 rfl b4.heap.size 53 4 48 Ql Se yH e4 (.slice e6 e4 gc) l0 ⟨gb,false,s,0⟩ [.string gb,zA,.string s,zD]
  rfl rfl yL yP yE yE
  (w.heap.size+2) 1 30 [qp,.slice e6 e4 gc,zH] yE bgk rfl (fun W=>yU) (fun v=>⟨rfl,rfl⟩) (fun v fy W=>yU) (fun v ak nr ax W h1 h2=>yU)
  (Bg (fun h=>(Zaw (a:=⟨w+2,1,none⟩) ((Af _).block (w+2) yE)).trans h)) ?_
 intro ak ax k0 rk kJ bmb i6 mb sb bbu;have kT:=Lp oc mb i6 (fun k e=>(l0.lt k e).1);rw[show e4++[⟨gb,false,s,0⟩]=Dt fs++Ht (dh++[s])by rw[<-bd3.out,Zdj,<-U9 dh s gb bcx.out]]at rk;have iE:=Ag bgm (i6 l6 yE yE jy);have lF:some l6.heap.size≠(Value.slice ak (e4+1) ax).ownBlock:=by
  rcases bbu with e | ⟨g,e,ar⟩
  ·rw[e];exact jy
  rw[e];exact B4 yE
 have fB:=Zaa bmb;clear bmb i6;go_wp2_with fail
 go_roundw
 case rel=>exact⟨dh+1,dh++[s],_,yE,yK,yF,Fa eH bby,rk,fB.out,kT,lF,iE,yE⟩
 case measure=>simp[intOf];omega):p:=h
theorem Z4n (k:q) (h:Zh q->p:=by
 intro Zq;have a7:(W.drewN 1).rangeAt o8 0 [p.kind,p.text,p.group,cu,.float .f64 ea,eb,fq,.slice gx hh hi]/\(W.drewN 1).rangeAt qq 0 [r.kind,r.Bh,r.Bp,z0,b9,z2,z3,z4,z5,cc,.slice bg bk z9,r.text,r.Az,.slice bn r.Aw br,r.A3,r.Bl]:=⟨Ag a1 yN,Ag a6 yN⟩;have eh:=Bm a1 yF;have hn:=Bm a6 yF;revert a7 eh hn;exact Zq.1):p:=h ⟨k⟩
theorem Z4o (h:p:=by
 clear J K bh f1;have hQ:=xu.set 1 (.slice ot 1 nh);have nl:=As bcj ad 1 (.slice ot 1 nh);generalize bcj.setCell ⟨ad,1,none⟩ (.slice ot 1 nh)=cl3 at hQ nl|-;have kj:=Bn (Bn (Ck (some ad.heap.size) bkv (Zab _)) jx) nl;have bb4:=((aJ.grown jx (cf aJ)).grown nl (cf aJ));have bb6:=((tj.grown jx (cf tj)).grown nl (cf tj));refine B1 ?_;go_wp2;exact⟨.inr ⟨yK,_,_,hQ,⟨Du bb4.1 yE,bb4.2⟩,⟨Du bb6.1 yE,bb6.2⟩,kj⟩,wJ⟩):p:=h
theorem Z4p (k:q) (h:Zh q->p:=by
 intro Zq;have rb:=Aa c5 (U.mono ah) af;have bbz:=Tree.In.below hx (U.mono ah);have k1:=eY.out _ (Zat tl) lz hR.out bq bb _ (wr.drewN 1) n (by rw[Zhg];omega) (Dr.Ab.drewN (Dr.Ab.below bfu.out (U.mono ah)) 1) ((a1▸bbz).drewN 1);have zd:=Zaa k1;have hq:=Zaa a1;have bd1:=Zaa eE;have ft:=Zaa (b8.drewN 1);have j5:=Zaa (fz.drewN 1);have dw:=Zaa (da.drewN 1);have ho:=Zaa (bl.drewN 1);have c2:=Zaa (Bk U 1 bp);have zf:=Zaa (Ag (w':=wr.drewN 1) rb yN);have q3:w.heap.size+3<=(wr.drewN 1).heap.size:=by rw[Zhg];have:=bl.lt;omega
 have cvl:k9< (wr.drewN 1).heap.size:=by rw[Zhg];exact b8.lt
 revert rb bbz k1 zd hq bd1 ft j5 dw ho c2 zf q3 cvl;exact Zq.1):p:=h ⟨k⟩
theorem Z4q (k:q) (h:Zh q->p:=by
 intro Zq;rw[z1];have byp:k9<w:=yE;have bf2:bnc<w:=yE;have rs:(i:Int) <s.Ac.length:=yE;have nz:(k:Int) <x.Ai.length:=yE;have iv:b<w:=yE;have hk:b2<w:=yE;obtain⟨W,bm⟩:=zL ((w.alloc (.cells #[s.Aj,.slice ei s.An ej,.slice (some ⟨b,o,none⟩) s.Ac e9] 30)).alloc (.cells #[zG,i,k,zG,zG] 142));have el:Below w w W:=wF;have na:W.heap.size=w+2:=xG;have c4:W.rangeAt w 0 [s.Aj,.slice ei s.An ej,.slice (some ⟨b,o,none⟩) s.Ac e9]:=vT;have dt:W.rangeAt (w+1) 0 [zG,i,k,zG,zG]:=by
  exact Z36
 have gn:=Zaa bm;revert byp bf2 rs nz iv hk W bm el na c4 dt gn;exact Zq.1):p:=h ⟨k⟩
theorem Z4r (h:p:=by
 refine Z4I ?_;clear J K;refine Ci (fun K J=>?_) (Bg i6);go_wp2_with fail
 refine Z54 ?_;rintro e hf ⟨rfl,jl⟩;go_wp2_with fail
 have R0:Below w w hf:=i6.1.trans (jl.mono i6.1.size);refine J _ _ (Bg ⟨R0,Aa i6.2.1 jl yE,Aa i6.2.2.1 jl yE,Aa i6.2.2.2 jl yE⟩) ?_;clear J K;refine Z2m ?_;refine C7 ?_;go_wp2_with fail
 go_ret;exact⟨rfl,R0⟩):p:=h
theorem Z4s (k:q) (h:Zh q->p:=by
 intro Zq;have ee:(bd.drewN 1).heap=bd.heap:=Zhg _ _;have e5:Below bd bd (bd.drewN 1):=(Zai _ _).grown (B5 _ 1 none) (Zab _) yF;have sx:(bd.drewN 1).rangeAt w 0 [.int .u8 il,.int .u8 N,.slice de x.Ay db,.slice ch x.Bw cg]/\(bd.drewN 1).rangeAt b4 0 [e1,.float .f64 kg,dy,gq,.slice ie dh ld]:=⟨Ag bd4.out yO,Ag ri.out yO⟩;have nn:(bd.drewN 1).heap.size=bd.heap.size:=yO;revert ee e5 sx nn;exact Zq.1):p:=h ⟨k⟩
theorem Z4t (k:q) (h:Zh q->p:=by
 intro Zq;have bu:=Ao b3 (w+2) [r.kind,r.Bh,r.Bp,z0,b9,z2,z3,z4,z5,cc,.slice bg bk z9,r.text,r.Az,.slice (some ⟨hl,o2,none⟩) r.Aw ac,r.A3,r.Bl] 0;have ps:=Zar b3 (w+2) 0 [r.kind,r.Bh,r.Bp,z0,b9,z2,z3,z4,z5,cc,.slice bg bk z9,r.text,r.Az,.slice (some ⟨hl,o2,none⟩) r.Aw ac,r.A3,r.Bl] ck.out;simp only[wpList,Dz];revert bu ps;exact Zq.1):p:=h ⟨k⟩
theorem Z4u (h:p:=by
 clear mi bc7 bu6 fl bu5 ym f0;gi_wp2_with fail
 refine⟨fun h=>yT,bl.mono ?_⟩;rintro e ag (⟨rfl,jY,-⟩ | ⟨rfl,jY,-⟩)
 ·gi_wp2_with fail
  exact⟨_,Zid rfl _ _ _,⟨_,rfl⟩,.inl jY⟩
 gi_wp2_with fail
 exact⟨_,Zid rfl _ _ _,⟨_,rfl⟩,.inr jY⟩):p:=h
theorem Z4v (k:q) (h:Zh q->p:=by
 intro Zq;refine J _ _ yF yF ?_;exact Zq.1):p:=h ⟨k⟩
theorem Z4w (k:q) (h:Zh q->p:=by
 intro Zq;refine Z00 ?_;refine Z2m ?_;exact Zq.1):p:=h ⟨k⟩
theorem Z4x (k:q) (h:Zh q->p:=by
 intro Zq;have fC:=bae.below mm yE;have eZ:=ba9.below mm yE;have bi9:=bo8.below mm yE;have bhx:=bo0.below mm yE;have zs:=bW.trans (mm.mono bW.size);have gR:w.heap.size+4<=n2:=Zag lC mm.size;revert fC eZ bi9 bhx zs gR;exact Zq.1):p:=h ⟨k⟩
theorem Z4y (k:q) (h:Zh q->p:=by
 intro Zq;have ee:(ay.drewN 1).heap=ay.heap:=Zhg _ _;have c9:Below wr wr (ay.drewN 1):=bt.grown (B5 _ 1 none) bt.size yF;revert ee c9;exact Zq.1):p:=h ⟨k⟩
theorem Z4z (k:q) (h:Zh q->p:=by
 intro Zq;refine(Iz t [z0,b9,z2,z3,z4,z5,cc,.slice bg bk z9] _ n bp yE iz).mono ?_;exact Zq.1):p:=h ⟨k⟩
theorem Z4A (k:q) (h:Zh q->p:=by
 intro Zq;refine J _ _ yF (Bg (fun h=>Aa h a1 yE)) ?_;exact Zq.1):p:=h ⟨k⟩
theorem Z4B (k:q) (h:Zh q->p:=by
 intro Zq;simp only[Bi,Zak,Zan,Zah,Zad,Zae,Zaj];have aO:=Tree.A6.below kq c9 (fun b U=>U.1.1);have gM:=Tree.A6.below qh c9 (fun b U=>U.1.1);have ma:=ff.out.below (A2.Ab B2.Ab _) c9 (Zab _);revert aO gM ma;exact Zq.1):p:=h ⟨k⟩
theorem Z4C (k:q) (h:Zh q->p:=by
 intro Zq;have c3:=Zaa (Ajh x.Bw _ dq n bp yE (cl.below (c0.mono ah)));have d3:=df 3 _ rfl;have d4:=df 4 _ rfl;have d5:=df 5 _ rfl;have d6:=df 6 _ rfl;have d7:=df 7 _ rfl;simp only[Zac]at d3 d4 d5 d6 d7;have hq:=Zaa df;have hv:=Zaa ow;have ho:=Zaa fu;revert c3 d3 d4 d5 d6 d7 hq hv ho;exact Zq.1):p:=h ⟨k⟩
theorem Z4D (k:q) (h:Zh q->p:=by
 intro Zq;have zo:=l8.below (A2.Ab hI _) af (Zab _);have c7:=mw.trans (af.mono mw.size);have eF:=c7.size;have re:=af.size;revert zo c7 eF re;exact Zq.1):p:=h ⟨k⟩
theorem Z4E (k:q) (h:Zh q->p:=by
 intro Zq;have zq:=al.trans bwo;have bem:=fJ.Mz;have o0:=fJ.low;have bz0:=zq.size;have ml:=af.below zq af.lt;have bl6:=bY.below D6.Ab zq (Zab _);have h5:=fJ.below zq;have tk:=A0.Ab.block bps (w':=bd) fun b U=>zq.block b (o0 b U)
 revert zq bem o0 bz0 ml bl6 h5 tk;exact Zq.1):p:=h ⟨k⟩
theorem Z4F (k:q) (h:Zh q->p:=by
 intro Zq;refine J _ _ (Bg ⟨Ag (Aa ta.out.1 bj yE) (bu.block _ tE uT),Ag (Aa ta.out.2 bj yE) (bu.block _ tE yJ)⟩) ?_;exact Zq.1):p:=h ⟨k⟩
theorem Z4G (k:q) (h:Zh q->p:=by
 intro Zq;have i6:Below w w (bs.drewN 1)/\(bs.drewN 1).rangeAt w 0 [s.Aj,.slice ei s.An ej,.slice (some ⟨b,o,none⟩) s.Ac e9]/\(bs.drewN 1).rangeAt (w+1) 0 [zG,i,k,zG,zG]/\(bs.drewN 1).rangeAt (w+2) 0 [r.kind,r.Bh,r.Bp,z0,b9,z2,z3,z4,z5,cc,.slice bg bk z9,r.text,r.Az,.slice gz r.Aw ac,r.A3,r.Bl]:=⟨below_drewN gw.1 gw.1.size 1,Ag gw.2.1 yN,Ag gw.2.2 yN,Ag ps yN⟩;revert i6;exact Zq.1):p:=h ⟨k⟩
theorem Z4H (k:q) (h:Zh q->p:=by
 intro Zq;refine Hz (fun K J=>?_);refine Z42 ?_;clear J K;refine Hz (fun K J=>?_);refine Z42 ?_;clear J K;exact Zq.1):p:=h ⟨k⟩
theorem Z4I (k:q) (h:Zh q->p:=by
 intro Zq;go_simp;refine J _ ?_;exact Zq.1):p:=h ⟨k⟩
theorem Z4J (k:q) (h:Zh q->p:=by
 intro Zq;have fD:=fC.below lk yE;have fA:=eZ.below lk yE;have bia:=bi9.below lk yE;have bhy:=bhx.below lk yE;have gI:=zs.trans (lk.mono zs.size);have bbp:w.heap.size+4<=sz:=Zag gR lk.size;revert fD fA bia bhy gI bbp;exact Zq.1):p:=h ⟨k⟩
theorem Z4K (k:q) (h:Zh q->p:=by
 intro Zq;refine Z03 ?_;refine Z3Z ?_;exact Zq.1):p:=h ⟨k⟩
theorem Z4L (k:q) (h:Zh q->p:=by
 intro Zq;have aK:=(bu.block w uO yF).trans xw.out;have nk:=c8.grown bu c8.size (fun r e=>yM);have y3:=p4.out;revert aK nk y3;exact Zq.1):p:=h ⟨k⟩
theorem Z4M (h:p:=by
 rw[<-bd1.out]at x8;clear bu;go_wp2_with fail
 go_roundw
 case rel=>exact⟨i+1,yE,yK,pg,yp,(by rw[jP.out];exact x8),ga,ml⟩
 case measure=>simp[intOf];omega):p:=h
theorem Z4N (k:q) (h:Zh q->p:=by
 intro Zq;have q3:(bs.drewN 1).heap.size=b3.heap.size+1:=by rw[Zhg];exact td.out
 have zr:Below bs bs (bs.drewN 1):=(Zai _ _).grown (B5 _ 1 none) (Zab _) yF;have rb:=(zr.block b3 xI).trans rj.out;have P1:=A4 rb 2 _ rfl;simp only[Zac]at P1;have gk:=Aa btb.out zr xI;revert q3 zr rb P1 gk;exact Zq.1):p:=h ⟨k⟩
theorem Z4O (k:q) (h:Zh q->p:=by
 intro Zq;obtain⟨cs,dn,gk,kq,-⟩:=e2 bc yJ;obtain⟨dk,aQ,w9,qh,-⟩:=e2 (bc+1) yJ;have p6:(aq++[t0]++[u0])[bc]'yJ=t0:=vR;have bao:(aq++[t0]++[u0])[bc+1]'yJ=u0:=vR;revert cs dn gk kq dk aQ w9 qh p6 bao;exact Zq.1):p:=h ⟨k⟩
theorem Z4P (k:q) (h:Zh q->p:=by
 intro Zq;simp only[wpList,Dz];refine J _ _ yF ?_;exact Zq.1):p:=h ⟨k⟩
theorem Z4Q (k:q) (h:Zh q->p:=by
 intro Zq;refine Jy rfl _ _ 283 rfl 49 8 Oa Pu yH rfl _ rfl (.float .f64 x) (fN.cell (j:=0) rfl) rfl ?_;exact Zq.1):p:=h ⟨k⟩
theorem Z4R (k:q) (h:Zh q->p:=by
 intro Zq;refine Z2o ?_;refine Gx (v:=.agg ([x.name,.slice fp x.Ai rc]).toArray) rfl (fun W bm=>B6 37 _ rfl b (o+st.state*2) rfl [x.name,.slice fp x.Ai rc] bm.2 yG yG) ?_;exact Zq.1):p:=h ⟨k⟩
theorem Z4S (k:q) (h:Zh q->p:=by
 intro Zq;refine J _ _ yF (Js (fun h=>Ar.below h a1 yE) (fun h=>Ar.below h a1 yE)) ?_;exact Zq.1):p:=h ⟨k⟩
theorem Z4T (k:q) (h:Zh q->p:=by
 intro Zq;have ee:(ag.drewN 1).heap=ag.heap:=Zhg _ _;have E2:(ag.drewN 1).rangeAt w 0 [.int .u8 il,.int .u8 te,.int .u8 zj,.int .u8 Gg,.slice fp x.Ea rc,.slice gz x.Aw ac]:=Ag eK yO;revert ee E2;exact Zq.1):p:=h ⟨k⟩
theorem Z4U (k:q) (h:Zh q->p:=by
 intro Zq;have df:=Ae w [z0,b9,z2,z3,z4,z5,cc,.slice bg bk z9] 43;have oy:(w.alloc (.cells #[z0,b9,z2,z3,z4,z5,cc,.slice bg bk z9] 43)).heap.size=w.heap.size+1:=yF;revert df oy;exact Zq.1):p:=h ⟨k⟩
theorem Z4V (k:q) (h:Zh q->p:=by
 intro Zq;have ba:=gn.out;rw[ba];clear ba;exact Zq.1):p:=h ⟨k⟩
theorem Z4W (k:q) (h:Zh q->p:=by
 intro Zq;refine Z09 ?_;have c8:Below a8 a8 (a8.drewN 1):=Bk (Zai _ _) 1 (Zab _);have h2:=h1.below c8;have af:=aa.trans (c8.mono aa.size);have iu:=fi.drewN 1;have dG:=dF.drewN 1;have hA2:=hA1.drewN 1;revert c8 h2 af iu dG hA2;exact Zq.1):p:=h ⟨k⟩
theorem Z4X (k:q) (h:Zh q->p:=by
 intro Zq;have l0:=ma.below (A2.Ab Dy.Ab _) bU (Zab _);have bgk:=(bU.block (w+2) yE).trans ri.out;have bgm:=Aa pg bU yE;have oc:=Bn pk (Ck (some (w.heap.size+2)) bU (Zab _));have nn:=bU.size;revert l0 bgk bgm oc nn;exact Zq.1):p:=h ⟨k⟩
theorem Z4Y (k:q) (h:Zh q->p:=by
 intro Zq;have fu:(bd.alloc (.cells zU 48)).heap[w.heap.size+2]? =some (.cells zU 48 (0,0)):=uW;have bj:Below bd bd (bd.alloc (.cells zU 48)):=Af _;revert fu bj;exact Zq.1):p:=h ⟨k⟩
theorem Z4Z (k:q) (h:Zh q->p:=by
 intro Zq;refine Z3s ?_;have c8:Below W W (W.drewN 1):=below_drewN (Zai _ _) (Zab _) 1;revert c8;exact Zq.1):p:=h ⟨k⟩
theorem Z50 (k:q) (h:Zh q->p:=by
 intro Zq;have qv:bc<=gc:=by have:=bi4.out;omega
 have lB:(bc:Int) < (bc:Int)+2:=yE;have ry:(bc:Int)+1< (bc:Int)+2:=yE;have ee:(ay.drewN 1).heap=ay.heap:=Zhg _ _;have c9:Below ay ay (ay.drewN 1):=(Zai _ _).grown (B5 _ 1 none) (Zab _) yF;revert qv lB ry ee c9;exact Zq.1):p:=h ⟨k⟩
theorem Z51 (k:q) (h:Zh q->p:=by
 intro Zq;have fK:IntKind.u64.wrap ((2:Int)^r)=((2^r:Nat):Int):=S7 r q0;rw[fK,aj];revert fK;exact Zq.1):p:=h ⟨k⟩
theorem Z52 (k:q) (h:Zh q->p:=by
 intro Zq;have eV:=eU.below lk yE;have fF:=fE.below lk yE;have gI:=zs.trans (lk.mono yE);have bbp:wr.heap.size+1<=sz:=Zag gR lk.size;revert eV fF gI bbp;exact Zq.1):p:=h ⟨k⟩
theorem Z53 (k:q) (h:Zh q->p:=by
 intro Zq;iterate 5 (refine Ah (fun K J=>?_);go_simp;refine J _ ?_;clear J K)
 refine B1 ?_;exact Zq.1):p:=h ⟨k⟩
theorem Z54 (k:q) (h:Zh q->p:=by
 intro Zq;refine c3.out.mono ?_;exact Zq.1):p:=h ⟨k⟩
theorem Z55 (k:q) (h:Zh q->p:=by
 intro Zq;refine J _ _ (fun _ _=>⟨fC,eZ⟩) (fun _ _ _=>⟨fC,eZ⟩) ?_;exact Zq.1):p:=h ⟨k⟩
theorem Z56 (k:q) (h:Zh q->p:=by
 intro Zq;have j4:(ay.drewN 1).heap.size=wr.heap.size+1:=uJ;revert j4;exact Zq.1):p:=h ⟨k⟩
theorem Z57 (k:q) (h:Zh q->p:=by
 intro Zq;have d5:=b7 5 _ rfl;have d6:=b7 6 _ rfl;have d7:=b7 7 _ rfl;revert d5 d6 d7;exact Zq.1):p:=h ⟨k⟩
theorem Z58 (k:q) (h:Zh q->p:=by
 intro Zq;have yk:=A4 ix 11 _ rfl;have f11:=Zhv bs (w+1+1) 11 _ 48 ix;have bmd:=Zhy bs (w+1+1) 11 _ 48 (.string s) ix;have dY:=Bn bqp (As bs (w+1+1) 11 (.string s));have p4:=Zaa bmd;revert yk f11 bmd dY p4;exact Zq.1):p:=h ⟨k⟩
end Go.Proofs.YtafmoofknjncpaaGreatDoor
