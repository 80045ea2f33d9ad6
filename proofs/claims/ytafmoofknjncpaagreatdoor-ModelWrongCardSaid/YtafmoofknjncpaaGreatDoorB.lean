/- A part of the proof that ModelWrong holds: its theorems stand as they are typed. -/
import Derived.OrdersIn
import Derived.Test.YtafmoofknjncpaaGreatDoorZm
set_option linter.all false
set_option maxRecDepth 100000
set_option maxHeartbeats 8000000
namespace Go.Proofs.YtafmoofknjncpaaGreatDoor
section
open Tryz
def Dz (Q:Exit->Act->World->Prop):Exit->Act->World->Prop
 | .normal,a,w=>Q .normal a w
 | _,_,_=>False
def Gd (w:zN) (v:Value):Result Next->Prop
 | .ok (.value u) w'=>w'=w/\u=v
 | .ok .skip w'=>w'=w/\v=undef
 | _=>False
section
variable {P:Program} {ops:Array Oper} {md:Region.Mode} {C cy2:World->Prop} {L:Act->World->Prop}
theorem Xe (w:zN) (v u:Value):Gd w v (.ok (.value u) w)=(u=v):=by simp[Gd]
attribute [go_sem] Xe
def Ou (P:Program) (ops:Array Oper) (C:World->Prop) (o:Oper) (v:Value) (a:Act):Prop:=
 (Region.wanted o (yielded ops a.tmps)=true/\∀w,C w->Gd w v ((execOp a.eval o).run P w))\/(Region.wanted o (yielded ops a.tmps)=false/\v=undef)
theorem Ou.of_same {o:Oper} {v:Value} {a A:Act} (hy:Ou P ops C o v a) (he:execOp A.eval o=execOp a.eval o)
  (hw:Region.wanted o (yielded ops A.tmps)=Region.wanted o (yielded ops a.tmps)):Ou P ops C o v A:=by
 unfold Ou at*
 rw[he,hw]
 exact hy
def Rr (P:Program) (o:Oper) (a:Act) (next:Act->World->Prop):Result Next->Prop
 | .ok (.value v) w'=>next (a.put o.dst v) w'
 | .ok .skip w'=>next (a.put o.dst undef) w'
 | .ok (.defer d) w'=>next ({a with defers:=d::a.defers}.put o.dst undef) w'
 | .ok (.enter f args) w'=>Calls P f args w' fun e A=>∃v,e=.returned v/\next (a.put o.dst v) A
 | .ok (.row row args) w'=>Rows P row args w' fun v A=>next (a.put o.dst v) A
 | .ok (.round l f tmps assign body) w'=>RoundIn Fence.wide 0 P l f tmps assign body w' fun e A=>∃v,e=.returned v/\next (a.put o.dst v) A
 | _=>False
def Ka (P:Program) (o:Oper) (a:Act) (w:zN) (next:Act->World->Prop):Prop:=Rr P o a next ((execOp a.eval o).run P w)
theorem Mh {o:Oper} {a:Act} {w:zN} {K G:Act->World->Prop} (h:∀a w,K a w->G a w) (A:Ka P o a w K):Ka P o a w G:=by
 unfold Ka at*
 generalize(execOp a.eval o).run P w=r at*
 cases r with
 | ok n w'=>
  cases n<;>simp only[Rr]at A|- <;>
   first
    | exact h _ _ A
    | exact Calls.mono A (fun e H ⟨v,F,D⟩=>⟨v,F,h _ _ D⟩)
    | exact Rows.mono A (fun _ _ he=>h _ _ he)
    | exact RoundIn.mono A (fun e H ⟨v,F,D⟩=>⟨v,F,h _ _ D⟩)
 | halt x w'=>simp only[Rr]at A
def Open (r:Option Nat):Fence:={Fence.wide with round:=r}
theorem Lw {r:Option Nat} {n:Nat} {f:FuncId} {args:Array Value} {w:zN} {R:Ending->World->Prop}:CallsIn (Open r) n P f args w R↔Calls P f args w R:=Zhq (n:=n)
theorem Adm {r:Option Nat} {n:Nat} {f:String} {args:Array Value} {w:zN} {R:Value->World->Prop}:RowsIn (Open r) n P f args w R↔Rows P f args w R:=
 ⟨fun h c cs=>let⟨v,w',x,y⟩:=h c cs (room_wide _);⟨v,w',x,stepsIn_wide.1 y⟩,fun h c cs _=>let⟨v,w',x,y⟩:=h c cs;⟨v,w',x,stepsIn_wide.2 y⟩⟩
theorem Jf {r:Option Nat} {n m:Nat} {l:Nat} {f:FuncId} {tmps:Array Value} {A D:Code} {w:zN} {R:Ending->World->Prop} (h:RoundIn Fence.wide m P l f tmps A D w R):RoundIn (Open r) n P l f tmps A D w R:=
 ⟨trivial,fun c cs _=>h.2 c cs (room_wide _)⟩
theorem Aas {r:Option Nat} {n m:Nat} {l:Nat} {f:FuncId} {tmps:Array Value} {A D:Code} {w:zN} {R:Ending->World->Prop} (h:RoundIn (Open r) n P l f tmps A D w R):RoundIn Fence.wide m P l f tmps A D w R:=
 ⟨trivial,fun c cs _=>h.2 c cs (room_wide _)⟩
theorem Acs {r:Option Nat} {n:Nat} {o:Oper} {a:Act} {w:zN} {K:Act->World->Prop} {Q:Exit->Act->World->Prop} (G:r=none\/∀c,o.op≠.defer c) (A:Ka P o a w K):o.wpIn (Open r) n P a w K Q:=by
 refine⟨fun _ _=>trivial,?_⟩;have J:(o.semAt (Open r).round a.eval).run P w=(execOp a.eval o).run P w:=by
  show(o.semAt r a.eval).run P w=_;rcases G with rfl | G
  ·rw[Oper.semAt_none]
  rw[Oper.semAt_eq _ _ _ G]
 rw[J];unfold Ka at A;generalize(execOp a.eval o).run P w=M at*
 have H:(Open r).depth.isSome=true->1<=n:=fun h=>by simp[Open,Fence.wide]at h
 cases M with
 | ok x w'=>
  cases x<;>simp only[Rr]at A<;>simp only[Oper.uponIn]<;>
   first
    | exact A
    | exact⟨H,Lw.2 (Calls.mono A (fun e O ⟨v,F,D⟩=>by subst F;exact D))⟩
    | exact⟨H,Adm.2 A⟩
    | exact⟨H,Jf (RoundIn.mono A (fun e O ⟨v,F,D⟩=>by subst F;exact D))⟩
 | halt x w'=>simp only[Rr]at A
theorem R8 {o:Oper} {a:Act} {w:zN} {K:Act->World->Prop} {Q:Exit->Act->World->Prop} (D:∀e a w,e≠.normal->¬Q e a w) (A:o.wp P a w K Q):Ka P o a w K:=by
 unfold Oper.wp at A;unfold Ka;generalize(execOp a.eval o).run P w=r at*
 cases r with
 | ok n w'=>
  cases n<;>simp only[Oper.upon]at A<;>simp only[Rr]<;>
   first
    | exact A
    | exact Calls.mono A (fun e F he=>by cases e<;>first | exact⟨_,rfl,he⟩ | exact(D _ _ _ yF he).elim | (obtain⟨_,_,h⟩:=he;exact(D _ _ _ yF h).elim))
 | halt x w'=>
  simp only[Rr];cases x<;>simp only[Oper.upon]at A;exact D _ _ _ yF A
def Np (P:Program) (ops:Array Oper) (R:World->World->Prop) (i:Nat) (K:Act->World->Prop) (a:Act) (w:zN):Prop:=
 match ops[i]? with
 | none=>K a w
 | some o=>if Region.wanted o (yielded ops a.tmps)then Ka P o a w (fun A w'=>R w w'/\K A w')else K (a.put o.dst undef) w
theorem Alj {R:World->World->Prop} {i:Nat} {a:Act} {w:zN} {K G:Act->World->Prop} (h:∀F w',R w w'\/w'=w->K F w'->G F w') (A:Np P ops R i K a w):Np P ops R i G a w:=by
 unfold Np at*
 split
 ·exact h _ _ (.inr rfl) (by simpa[*]using A)
 rename_i o H
 simp only[H]at A;split
 ·rename_i D;simp only[D,Zia]at A;exact Mh (fun _ _ ⟨h1,h2⟩=>⟨h1,h _ _ (.inl h1) h2⟩) A
 rename_i D;simp only[D]at A;exact h _ _ (.inr rfl) A
def Lx (P:Program) (md:Region.Mode) (ops:Array Oper) (R:Nat->World->World->Prop) (L:Act->World->Prop):Nat->Array Bool->Act->World->Prop
 | 0,s,a,w=>Region.ready md ops s=[]/\L a w
 | f+1,s,a,w=>(Region.ready md ops s=[]->L a w)/\∀i∈Region.ready md ops s,Np P ops (R i) i (Lx P md ops R L f (s.setIfInBounds i true)) a w
def N5 (ops:Array Oper):Bool:=ops.all fun o=>match o.op with | .defer _=>false | _=>true
theorem Aa8 (h:N5 ops=true) (j:Nat) (o:Oper) (c:Call) (A:ops[j]? =some o):o.op≠.defer c:=by
 intro heq;have:=Array.all_eq_true_iff_forall_mem.1 h o (Array.mem_of_getElem? A);simp[heq]at this
theorem He {r:Option Nat} {n:Nat} {R:Nat->World->World->Prop} {Q:Exit->Act->World->Prop} (M:r=none\/N5 ops=true) (G:∀a w,L a w->Q .normal a w):∀(f:Nat) (s:Array Bool) (a:Act) (w:zN),Lx P md ops R L f s a w->wpAnyIn (Open r) n P md ops Q f s a w:=by
 intro f
 induction f with
 | zero=>intro s a w h;exact⟨h.1,G _ _ h.2⟩
 | succ f D=>
  intro s a w h;refine⟨fun h0=>G _ _ (h.1 h0),fun i H=>?_⟩;have h1:=h.2 i H;unfold Np at h1;unfold wpOpIn;split
  ·rename_i A;simp only[A]at h1;exact D _ _ _ h1
  rename_i o A
  simp only[A]at h1;split
  ·rename_i F;simp only[F,Zia]at h1;exact Acs (M.imp id (fun h c=>Aa8 h i o c A)) (Mh (fun J w' h2=>D _ J w' h2.2) h1)
  rename_i F;simp only[F]at h1;exact⟨fun _ _=>trivial,D _ _ _ h1⟩
theorem Tz {R:World->World->Prop} {i:Nat} {o:Oper} {v:Value} {a:Act} {w:zN} {K:Act->World->Prop} (H:ops[i]? =some o) (hw:C w) (G:R w w) (hy:Ou P ops C o v a) (h:K (a.put o.dst v) w):Np P ops R i K a w:=by
 unfold Np;simp only[H];rcases hy with⟨F,J⟩ | ⟨F,rfl⟩
 ·simp only[F,Zia]
  have h1:=J w hw;unfold Ka;generalize(execOp a.eval o).run P w=r at*
  cases r with
  | ok n w'=>
   cases n<;>simp only[Gd]at h1<;>simp only[Rr]
   ·obtain⟨D,A⟩:=h1;rw[D,A];exact⟨G,h⟩
   obtain⟨D,A⟩:=h1;rw[D,<-A];exact⟨G,h⟩
  | halt x w'=>simp only[Gd]at h1
 simp only[F,Zbd,Zhz];exact h
theorem Ans {R:World->World->Prop} {j:Nat} {A D:Oper} {v:Value} {a:Act} {w:zN} {K:Act->World->Prop} (M:ops[j]? =some D) (O:A.apart ops D=true)
  (V:∀cs b,A.op≠.select cs b) (T:∀cs b,D.op≠.select cs b)
  (hy:Ou P ops C A v a) (h:Np P ops R j K (a.put A.dst v) w):
  Np P ops R j (fun H w'=>Ou P ops C A v H/\K (H.put A.dst v) w') a w:=by
 obtain⟨h1,h2,h3⟩:=Oper.apart_spec O
 have C4:∀(a:Act),Ou P ops C A v a->∀u,Ou P ops C A v (a.put D.dst u):=fun a hy u=>
  hy.of_same (execOp_put A V a D.dst u h3) (wanted_put A a D.dst u h3)
 have U:∀d,Ou P ops C A v {a with defers:=d::a.defers}:=fun d=>hy.of_same rfl rfl
 unfold Np at*
 simp only[M]at*
 rw[wanted_put D a A.dst v h1]at h
 split
 ·rename_i G
  simp only[G,Zia]at h;unfold Ka at*
  rw[execOp_put D T a A.dst v h1]at h;generalize(execOp a.eval D).run P w=r at*
  cases r with
  | ok n w'=>
   cases n<;>simp only[Rr]at h|-
   case value u=>exact⟨h.1,C4 a hy u,by rw[<-Zbt a v u h2];exact h.2⟩
   case skip=>exact⟨h.1,C4 a hy _,by rw[<-Zbt a v undef h2];exact h.2⟩
   case defer d=>exact⟨h.1,C4 _ (U d) _,by rw[<-Zbt _ v undef h2,<-Act.put_defers];exact h.2⟩
   case enter f args=>exact Calls.mono h fun e J ⟨u,F,he⟩=>⟨u,F,he.1,C4 a hy u,sK⟩
   case row row args=>exact Rows.mono h fun u J he=>⟨he.1,C4 a hy u,sK⟩
   case round l f tmps assign body=>exact RoundIn.mono h fun e J ⟨u,F,he⟩=>⟨u,F,he.1,C4 a hy u,sK⟩
  | halt x w'=>simp only[Rr]at h
 rename_i G
 simp only[G]at h
 exact⟨C4 a hy _,by rw[<-Zbt a v undef h2];exact h⟩
def reaches (md:Region.Mode) (ops:Array Oper):Nat->Nat->Nat->Bool
 | 0,_,_=>false
 | f+1,j,i=>match ops[j]? with
  | none=>false
  | some o=>o.after.any fun e=>Region.binds md e&&(e.on==i||reaches md ops f e.on i)
def G7 (md:Region.Mode) (ops:Array Oper) (s:Array Bool):Prop:=∀(j:Nat) (o:Oper),ops[j]? =some o->s.getD j false=true->∀e∈o.after,Region.binds md e=true->s.getD e.on false=true
theorem Tl {s:Array Bool} (G:G7 md ops s):∀(f j i:Nat),reaches md ops f j i=true->
  (∀(o:Oper),ops[j]? =some o->∀e∈o.after,Region.binds md e=true->s.getD e.on false=true)->s.getD i false=true:=by
 intro f
 induction f with
 | zero=>intro j i h;simp[reaches]at h
 | succ f M=>
  intro j i h F;unfold reaches at h;split at h
  ·cases h
  rename_i o J
  obtain⟨e,he,U⟩:=Array.any_eq_true'.1 h;simp only[Zcg,Zcl,Zhn]at U;have D:=F o J e he U.1;rcases U.2 with A | A
  ·rw[<-A];exact D
  exact M e.on i A (fun O H=>G e.on O H D)
theorem Ant {s:Array Bool} (F:G7 md ops s) {i j f:Nat} (A:s.getD i true=false) (D:j∈Region.ready md ops s):reaches md ops f j i=false:=by
 cases h:reaches md ops f j i with
 | false=>rfl
 | true=>
  obtain⟨_,M,G,J⟩:=mem_ready.1 D;have h1:=Tl F f j i h (fun o H e he U=>by
   have:o=M:=Zgq (H.symm.trans G);subst this;exact J e he U)
  rw[getD_both A]at h1;cases h1
theorem G7.set {s:Array Bool} {i:Nat} (H:G7 md ops s) (G:i∈Region.ready md ops s):G7 md ops (s.setIfInBounds i true):=by
 obtain⟨_,O,J,M⟩:=mem_ready.1 G;intro j o A D e he U;by_cases F:i=j
 ·subst F
  have:o=O:=Zgq (A.symm.trans J);subst this;exact getD_set_true (M e he U)
 rw[getD_set_ne false F]at D;exact getD_set_true (H j o A D e he U)
theorem Jz {R:Nat->World->World->Prop} {F i:Nat} {M:Oper} {v:Value} (T:ops[i]? =some M) (a5:∀(j:Nat) (o:Oper) cs b,ops[j]? =some o->o.op≠.select cs b)
  (a8:∀j,j≠i->reaches md ops F j i=false->∀w w',R j w w'->C w->C w') (a4:∀w,R i w w):
  ∀(f:Nat) (s:Array Bool) (a:Act) (w:zN),C w->G7 md ops s->
   (∀j D,ops[j]? =some D->j≠i->s.getD j true=false->(∀e∈D.after,Region.binds md e=true->e.on≠i)->M.apart ops D=true)->
   i∈Region.ready md ops s->Ou P ops C M v a->
   Lx P md ops R L f (s.setIfInBounds i true) (a.put M.dst v) w->Lx P md ops R L (f+1) s a w:=by
 intro f
 induction f with
 | zero=>
  intro s a w hw _ _ J hy H;refine⟨fun h=>absurd h (List.ne_nil_of_mem J),fun j G=>?_⟩;by_cases A:j=i
  ·subst A;exact Tz T hw (a4 w) hy H
  have:=ready_mono G A;rw[H.1]at this;cases this
 | succ f aa=>
  intro s a w hw W a0 J hy H;refine⟨fun h=>absurd h (List.ne_nil_of_mem J),fun j G=>?_⟩;by_cases A:j=i
  ·subst A;exact Tz T hw (a4 w) hy H
  have h1:=H.2 j (ready_mono G A);obtain⟨a2,D,V,ae⟩:=mem_ready.1 G;have Y:=(mem_ready.1 J).1;have a9:∀e∈D.after,Region.binds md e=true->e.on≠i:=fun e he U heq=>by
   have h2:=ae e he U;rw[heq,getD_both Y]at h2;cases h2
  have ab:reaches md ops F j i=false:=Ant W Y G;have h2:=Ans V (a0 j D V A a2 a9) (fun cs b=>a5 i M cs b T) (fun cs b=>a5 j D cs b V) hy h1;refine Alj (fun a7 w' O h3=>aa (s.setIfInBounds j true) a7 w' ?_ (W.set G) (fun k ok a6 ac a3 ad=>a0 k ok a6 ac ?_ ad) (ready_mono J (Ne.symm A)) h3.1 ?_) h2
  ·rcases O with O | rfl
   ·exact a8 j A ab w w' O hw
   exact hw
  ·by_cases a1:j=k
   ·subst a1;exact a2
   rw[getD_set_ne true a1]at a3;exact a3
  rw[Array.setIfInBounds_comm _ _ A];exact h3.2
theorem I0 {Q:Exit->Act->World->Prop} (e:Exit) (a:Act) (w:zN) (h:e≠.normal):¬Dz Q e a w:=by
 cases e<;>simp_all[Dz]
def Bi {α:Type} (ops:Array Oper) (l:List (Nat×α)):List (Oper×α):=l.filterMap fun p=>(ops[p.1]?).map fun o=>(o,p.2)
theorem Nx {α:Type} {t:Nat} {k:α} {r:List (Nat×α)} {o:Oper} (h:ops[t]? =some o):Bi ops ((t,k)::r)=(o,k)::Bi ops r:=by simp[Bi,h]
def Kr (c:Nat->World->Prop) (T:List (Nat×List Nat)) (j:Nat) (w w':zN):Prop:=
 match T.lookup j with
 | some ks=>∀k∈ks,c k w'
 | none=>∀k,c k w->c k w'
def cls (c:Nat->World->Prop):Option Nat->World->Prop
 | some k=>c k
 | none=>fun _=>True
theorem Bg {p:zT} {i:Nat} (h:p i):∀k∈[i],p k:=yV
theorem Js {p:zT} {i j:Nat} (h:p i) (A:p j):∀k∈[i,j],p k:=by simp;exact⟨h,A⟩
end
end
section
open Tryz
section
variable {P:Program} {md:Region.Mode} {ops:Array Oper} {L:Act->World->Prop}
def Dn (P:Program) (ops:Array Oper) (c:Nat->World->Prop) (L:Act->World->Prop):List (Oper×(Option Nat ⊕ List Nat))->Act->World->Prop
 | [],a,w=>L a w
 | (o,.inl k)::r,a,w=>if Region.wanted o (yielded ops a.tmps)then ∃v,(∀w',cls c k w'->Gd w' v ((execOp a.eval o).run P w'))/\Dn P ops c L r (a.put o.dst v) w else Dn P ops c L r (a.put o.dst undef) w
 | (o,.inr ks)::r,a,w=>if Region.wanted o (yielded ops a.tmps)then Ka P o a w (fun A w'=>(∀k∈ks,c k w')/\Dn P ops c L r A w')else Dn P ops c L r (a.put o.dst undef) w
def U7 (S:List (Nat×(Option Nat ⊕ List Nat))):List (Nat×List Nat):=S.filterMap fun p=>match p.2 with | .inl _=>none | .inr ks=>some (p.1,ks)
def live:Option (List Nat)->Nat->Bool
 | none,_=>true
 | some l,k=>l.contains k
def Un (md:Region.Mode) (ops:Array Oper) (T:List (Nat×List Nat)):List (Nat×(Option Nat ⊕ List Nat))->Option (List Nat)->Array Bool->Bool
 | [],_,s=>(Region.ready md ops s).isEmpty
 | (i,.inl k)::r,A,s=>(Region.ready md ops s).contains i&&Region.free md ops s i&&(T.lookup i).isNone&&
   (match k with | none=>true | some k=>live A k&&T.all fun p=>p.2.contains k||reaches md ops ops.size p.1 i)&&Un md ops T r A (s.setIfInBounds i true)
 | (i,.inr ks)::r,A,s=>decide (Region.ready md ops s=[i])&&(T.lookup i==some ks)&&ks.all (live A)&&Un md ops T r (some ks) (s.setIfInBounds i true)
theorem Nk {α:Type}:∀(T:List (Nat×α)) (j:Nat) (k:α),T.lookup j=some k->(j,k)∈T:=by
 intro T
 induction T with
 | nil=>intro j k h;cases h
 | cons p r A=>
  obtain⟨t,F⟩:=p;intro j k h;rw[List.lookup_cons]at h;split at h
  ·rename_i D
   have:j=t:=by simpa using D
   subst this;simp only[Zbb]at h;subst h;simp
  exact Zex _ (A j k h)
theorem Aew {c:Nat->World->Prop} {T:List (Nat×List Nat)} (nm:Region.noSelect ops=true):
  ∀(S:List (Nat×(Option Nat ⊕ List Nat))) (cz:Option (List Nat)) (s:Array Bool) (a:Act) (w:zN),(∀k,live cz k=true->c k w)->G7 md ops s->(∀p∈S,p.1<ops.size)->
  Un md ops T S cz s=true->Dn P ops c L (Bi ops S) a w->Lx P md ops (Kr c T) L S s a w:=by
 intro S
 induction S with
 | nil=>intro cz s a w _ _ _ A h;exact⟨by simpa[Un]using A,h⟩
 | cons p r cb=>
  obtain⟨i,G⟩:=p;intro cz s a w hw b0 F A h;obtain⟨V,h0⟩:∃o,ops[i]? =some o:=⟨_,Zbw (F (i,G) yF)⟩;rw[Nx h0]at h;have pa:∀p∈r,p.1<ops.size:=fun p hp=>F p (by simp[hp])
  cases G with
  | inl k=>
   simp only[Un,Zcg]at A;obtain⟨⟨⟨⟨a6,cv⟩,M⟩,a7⟩,w3⟩:=A;have n0:i∈Region.ready md ops s:=vN;have D:T.lookup i=none:=by simpa using M
   have hk:cls c k w:=by
    cases k with
    | none=>trivial
    | some k=>simp only[Zcg]at a7;exact hw k a7.1
   have gA:∀w,Kr c T i w w:=fun w=>by unfold Kr;rw[D];exact fun _ h=>h
   have bl:∀j,j≠i->reaches md ops ops.size j i=false->∀w w',Kr c T j w w'->cls c k w->cls c k w':=by
    intro j _ bbs w w' c1 J;cases k with
    | none=>trivial
    | some k=>
     simp only[Zcg]at a7;unfold Kr at c1;split at c1
     ·rename_i ks iV
      exact Z2j
     exact c1 k J
   rw[Zao];simp only[Dn]at h;split at h
   ·rename_i lx
    exact Z1f
   rename_i lx
   exact Jz h0 (Zgt nm) bl gA _ s a w hk b0 (Zgs h0 cv) n0 (.inr ⟨by simpa using lx,rfl⟩) (cb cz _ _ w hw (b0.set n0) pa w3 h)
  | inr ks=>
   simp only[Un,Zcg,Zhu]at A;obtain⟨⟨⟨a6,D⟩,iV⟩,w3⟩:=A;have O:T.lookup i=some ks:=by simpa using D
   have n0:i∈Region.ready md ops s:=by rw[a6];simp
   refine⟨fun h1=>uC,fun j av=>?_⟩;rw[a6]at av;have U:j=i:=xW;subst U;simp only[Dn]at h;unfold Np;simp only[h0];split
   ·rename_i lx
    rw[if_pos lx]at h;refine Mh (fun H w' h2=>⟨?_,cb (some ks) _ H w' (fun k a7=>h2.1 k (by simpa[live]using a7)) (b0.set n0) pa w3 h2.2⟩) h;unfold Kr;rw[O];exact h2.1
   rename_i lx
   rw[if_neg lx]at h;exact cb (some ks) _ _ w (fun k a7=>hw k (Zdg.1 iV k (by simpa[live]using a7))) (b0.set n0) pa w3 h
theorem C7 {c:Nat->World->Prop} {a:Act} {w:zN} (h:L a w):Dn P ops c L [] a w:=h
theorem Ad {c:Nat->World->Prop} {a:Act} {w:zN} {o:Oper} {r:List (Oper×(Option Nat ⊕ List Nat))}
  (h:∀K:Act->Prop,(∀a,Dn P ops c L r a w->K a)->if Region.wanted o (yielded ops a.tmps)then ∃v,(∀w',True->Gd w' v ((execOp a.eval o).run P w'))/\K (a.put o.dst v)else K (a.put o.dst undef)):
  Dn P ops c L ((o,.inl none)::r) a w:=h (fun a=>Dn P ops c L r a w) (fun _ h=>h)
theorem Hz {c:Nat->World->Prop} {a:Act} {w:zN} {o:Oper} {k:Nat} {r:List (Oper×(Option Nat ⊕ List Nat))}
  (h:∀K:Act->Prop,(∀a,Dn P ops c L r a w->K a)->if Region.wanted o (yielded ops a.tmps)then ∃v,(∀w',c k w'->Gd w' v ((execOp a.eval o).run P w'))/\K (a.put o.dst v)else K (a.put o.dst undef)):
  Dn P ops c L ((o,.inl (some k))::r) a w:=h (fun a=>Dn P ops c L r a w) (fun _ h=>h)
theorem Av {c:Nat->World->Prop} {a:Act} {w:zN} {o:Oper} {k:Nat} {r:List (Oper×(Option Nat ⊕ List Nat))} (v:Value) (hw:Region.wanted o (yielded ops a.tmps)=true)
  (h:∀w',c k w'->Gd w' v ((execOp a.eval o).run P w')) (A:∀K:Act->Prop,(∀a,Dn P ops c L r a w->K a)->K (a.put o.dst v)):Dn P ops c L ((o,.inl (some k))::r) a w:=by
 simp only[Dn,hw,Zia]
 exact⟨v,h,A (fun a=>Dn P ops c L r a w) (fun _ h=>h)⟩
theorem Ci {c:Nat->World->Prop} {a:Act} {w:zN} {o:Oper} {ks:List Nat} {r:List (Oper×(Option Nat ⊕ List Nat))}
  (h:∀K:Act->World->Prop,(∀a w,(∀k∈ks,c k w)->Dn P ops c L r a w->K a w)->wpList P ops (Dz fun _ A w'=>K A w') [o] a w) (hC:∀k∈ks,c k w):Dn P ops c L ((o,.inr ks)::r) a w:=by
 have h1:=h (fun A w'=>(∀k∈ks,c k w')/\Dn P ops c L r A w') (fun _ _ h1 h2=>⟨h1,h2⟩)
 simp only[Dn]
 simp only[wpList]at h1
 split
 ·rename_i hw
  rw[if_pos hw]at h1;exact Z1J
 rename_i hw
 rw[if_neg hw]at h1
 exact h1.2
end
def Aim (ops:Array Oper) (S:List (Nat×(Option Nat ⊕ List Nat))):Bool:=
 Region.noSelect ops&&S.all (fun p=>decide (p.1<ops.size))&&decide (S.length=ops.size)&&Un .any ops (U7 S) S none (Array.replicate ops.size false)
theorem C1 {P:Program} {id:Nat} {Q:Exit->Act->World->Prop} {a:Act} {w:zN} {ops:List Oper} (S:List (Nat×(Option Nat ⊕ List Nat))) (c:Nat->World->Prop)
  (hm:P.follows .mixedOrders=true) (D:Aim ops.toArray S=true) (hC:∀k,c k (w.drewN 1))
  (h:Dn P ops.toArray c (fun a w=>Q .normal a w) (Bi ops.toArray S) a (w.drewN 1)):
  (Code.region id ops.toArray true).wp P Q a w:=by
 simp only[Aim,Zcg,Zhu,Zdg]at D
 obtain⟨⟨⟨G,F⟩,hlen⟩,uq⟩:=D
 refine(Zii (n:=0)).1 (wpIn_region_any hm (He (r:=none) (R:=Kr c (U7 S)) (L:=fun a w=>Q .normal a w) (.inl rfl) (fun _ _ h=>h) _ _ _ _ ?_))
 rw[<-hlen]
 refine Aew G S none _ a (w.drewN 1) (fun k _=>hC k) ?_ F wU h
 intro j o _ A
 rw[Zhw]at A
 cases A
end
section
open Tryz
section
variable {P:Program} {md:Region.Mode} {ops:Array Oper} {L:Act->World->Prop}
def Ll (ops:Array Oper) (i:Nat):Bool:=match ops[i]? with | some o=>o.guard.isNone | none=>false
def Um (md:Region.Mode) (ops:Array Oper) (T:List (Nat×List Nat)):List (Nat×(Option Nat ⊕ List Nat))->List Nat->Array Bool->Bool
 | [],_,s=>(Region.ready md ops s).isEmpty
 | (i,.inl k)::r,A,s=>(Region.ready md ops s).contains i&&Region.free md ops s i&&(T.lookup i).isNone&&
   (match k with | none=>true | some k=>A.contains k&&T.all fun p=>p.2.contains k||reaches md ops ops.size p.1 i)&&Um md ops T r A (s.setIfInBounds i true)
 | (i,.inr ks)::r,A,s=>decide (Region.ready md ops s=[i])&&(T.lookup i==some ks)&&(ks.all (fun k=>A.contains k)||Ll ops i)&&Um md ops T r ks (s.setIfInBounds i true)
theorem Nc {o:Oper} {i:Nat} {y:Array (Option Value)} (h0:ops[i]? =some o) (h:Ll ops i=true) (tmps:Array Value):Region.wanted o (yielded ops tmps)=true:=by
 unfold Ll at h;rw[h0]at h;have:o.guard=none:=yV;simp[Region.wanted,this]
theorem Su {c:Nat->World->Prop} {T:List (Nat×List Nat)} (nm:Region.noSelect ops=true):
  ∀(S:List (Nat×(Option Nat ⊕ List Nat))) (cz:List Nat) (s:Array Bool) (a:Act) (w:zN),(∀k,cz.contains k=true->c k w)->G7 md ops s->(∀p∈S,p.1<ops.size)->
  Um md ops T S cz s=true->Dn P ops c L (Bi ops S) a w->Lx P md ops (Kr c T) L S s a w:=by
 intro S
 induction S with
 | nil=>intro cz s a w _ _ _ A h;exact⟨by simpa[Um]using A,h⟩
 | cons p r cb=>
  obtain⟨i,G⟩:=p;intro cz s a w hw b0 F A h;obtain⟨W,h0⟩:∃o,ops[i]? =some o:=⟨_,Zbw (F (i,G) yF)⟩;rw[Nx h0]at h;have pa:∀p∈r,p.1<ops.size:=fun p hp=>F p (by simp[hp])
  cases G with
  | inl k=>
   simp only[Um,Zcg]at A;obtain⟨⟨⟨⟨a6,cv⟩,M⟩,a7⟩,w3⟩:=A;have n0:i∈Region.ready md ops s:=vN;have D:T.lookup i=none:=by simpa using M
   have hk:cls c k w:=by
    cases k with
    | none=>trivial
    | some k=>simp only[Zcg]at a7;exact hw k a7.1
   have gA:∀w,Kr c T i w w:=fun w=>by unfold Kr;rw[D];exact fun _ h=>h
   have bl:∀j,j≠i->reaches md ops ops.size j i=false->∀w w',Kr c T j w w'->cls c k w->cls c k w':=by
    intro j _ bbs w w' c1 J;cases k with
    | none=>trivial
    | some k=>
     simp only[Zcg]at a7;unfold Kr at c1;split at c1
     ·rename_i ks iV
      exact Z2j
     exact c1 k J
   rw[Zao];simp only[Dn]at h;split at h
   ·rename_i lx
    exact Z1f
   rename_i lx
   exact Jz h0 (Zgt nm) bl gA _ s a w hk b0 (Zgs h0 cv) n0 (.inr ⟨by simpa using lx,rfl⟩) (cb cz _ _ w hw (b0.set n0) pa w3 h)
  | inr ks=>
   simp only[Um,Zcg,Zhu]at A;obtain⟨⟨⟨a6,D⟩,iV⟩,w3⟩:=A;have U:T.lookup i=some ks:=by simpa using D
   have n0:i∈Region.ready md ops s:=by rw[a6];simp
   refine⟨fun h1=>uC,fun j av=>?_⟩;rw[a6]at av;have V:j=i:=xW;subst V;simp only[Dn]at h;unfold Np;simp only[h0];split
   ·rename_i lx
    rw[if_pos lx]at h;refine Mh (fun H w' h2=>⟨?_,cb ks _ H w' (fun k a7=>h2.1 k xZ) (b0.set n0) pa w3 h2.2⟩) h;unfold Kr;rw[U];exact h2.1
   rename_i lx
   have O:ks.all (fun k=>cz.contains k)=true:=by
    rw[Zcl]at iV;rcases iV with h1 | h1
    ·exact h1
    exact absurd (Nc (y:=#[]) h0 h1 a.tmps) lx
   rw[if_neg lx]at h;exact cb ks _ _ w (fun k a7=>hw k (Zdg.1 O k xZ)) (b0.set n0) pa w3 h
end
def Vv (ops:Array Oper) (S:List (Nat×(Option Nat ⊕ List Nat))) (A:List Nat):Bool:=
 Region.noSelect ops&&S.all (fun p=>decide (p.1<ops.size))&&decide (S.length=ops.size)&&Um .any ops (U7 S) S A (Array.replicate ops.size false)
theorem J7 {P:Program} {id:Nat} {Q:Exit->Act->World->Prop} {a:Act} {w:zN} {ops:List Oper} (S:List (Nat×(Option Nat ⊕ List Nat))) (c:Nat->World->Prop) (cz:List Nat)
  (hm:P.follows .mixedOrders=true) (A:Vv ops.toArray S cz=true) (hC:∀k,cz.contains k=true->c k (w.drewN 1))
  (h:Dn P ops.toArray c (fun a w=>Q .normal a w) (Bi ops.toArray S) a (w.drewN 1)):
  (Code.region id ops.toArray true).wp P Q a w:=by
 simp only[Vv,Zcg,Zhu,Zdg]at A
 obtain⟨⟨⟨nm,ao⟩,hlen⟩,uq⟩:=A
 refine(Zii (n:=0)).1 (wpIn_region_any hm (He (r:=none) (R:=Kr c (U7 S)) (L:=fun a w=>Q .normal a w) (.inl rfl) (fun _ _ h=>h) _ _ _ _ ?_))
 exact Z2c
end
section
open Tryz
abbrev Mx:=Option Nat ⊕ (List Nat×List Nat)
section
variable {P:Program} {md:Region.Mode} {ops:Array Oper} {L:Act->World->Prop} {c:Nat->World->Prop} {a:Act} {w:zN} {o:Oper} {r:List (Oper×Mx)}
def C8 (P:Program) (ops:Array Oper) (c:Nat->World->Prop) (L:Act->World->Prop):List (Oper×Mx)->Act->World->Prop
 | [],a,w=>L a w
 | (o,.inl k)::r,a,w=>if Region.wanted o (yielded ops a.tmps)then ∃v,(∀w',cls c k w'->Gd w' v ((execOp a.eval o).run P w'))/\C8 P ops c L r (a.put o.dst v) w else C8 P ops c L r (a.put o.dst undef) w
 | (o,.inr ks)::r,a,w=>if Region.wanted o (yielded ops a.tmps)then Ka P o a w (fun A w'=>((∀k∈ks.1,c k w')/\∀k∈ks.2,c k w->c k w')/\C8 P ops c L r A w')else C8 P ops c L r (a.put o.dst undef) w
def Fl (c:Nat->World->Prop) (T:List (Nat×List Nat)) (j:Nat) (w w':zN):Prop:=
 match T.lookup j with
 | some ks=>∀k∈ks,c k w->c k w'
 | none=>∀k,c k w->c k w'
def Ln (md:Region.Mode) (ops:Array Oper) (T:List (Nat×List Nat)) (fin:List Nat->Array Bool->Bool):List (Nat×Mx)->List Nat->Array Bool->Bool
 | [],A,s=>fin A s
 | (i,.inl k)::r,A,s=>(Region.ready md ops s).contains i&&Region.free md ops s i&&(T.lookup i).isNone&&
   (match k with | none=>true | some k=>A.contains k&&T.all fun p=>p.2.contains k||reaches md ops ops.size p.1 i)&&Ln md ops T fin r A (s.setIfInBounds i true)
 | (i,.inr ks)::r,A,s=>decide (Region.ready md ops s=[i])&&(T.lookup i==some ks.2)&&Ll ops i&&Ln md ops T fin r ks.1 (s.setIfInBounds i true)
theorem H6 {T:List (Nat×List Nat)} (nm:Region.noSelect ops=true) {fin:List Nat->Array Bool->Bool} {n:Nat} {M:Act->World->Prop}
  (a1:∀cz s a w,(∀k,cz.contains k=true->c k w)->G7 md ops s->fin cz s=true->M a w->Lx P md ops (Fl c T) L n s a w):
  ∀(S:List (Nat×Mx)) (cz:List Nat) (s:Array Bool) (a:Act) (w:zN),(∀k,cz.contains k=true->c k w)->G7 md ops s->(∀p∈S,p.1<ops.size)->
  Ln md ops T fin S cz s=true->C8 P ops c M (Bi ops S) a w->Lx P md ops (Fl c T) L (S+n) s a w:=by
 intro S
 induction S with
 | nil=>intro cz s a w hw b0 _ A h;rw[Zav,Zac];exact a1 cz s a w hw b0 A h
 | cons p r cb=>
  obtain⟨i,F⟩:=p;intro cz s a w hw b0 J A h;obtain⟨a3,h0⟩:∃o,ops[i]? =some o:=⟨_,Zbw (J (i,F) yF)⟩;rw[Nx h0]at h;have pa:∀p∈r,p.1<ops.size:=fun p hp=>J p (by simp[hp])
  have e:(((i,F)::r).length+n)=(r.length+n)+1:=by rw[Zao];omega
  rw[e];cases F with
  | inl k=>
   simp only[Ln,Zcg]at A;obtain⟨⟨⟨⟨a6,cv⟩,W⟩,a7⟩,w3⟩:=A;have n0:i∈Region.ready md ops s:=vN;have G:T.lookup i=none:=by simpa using W
   have hk:cls c k w:=by
    cases k with
    | none=>trivial
    | some k=>simp only[Zcg]at a7;exact hw k a7.1
   have gA:∀w,Fl c T i w w:=fun w=>by unfold Fl;rw[G];exact fun _ h=>h
   have bl:∀j,j≠i->reaches md ops ops.size j i=false->∀w w',Fl c T j w w'->cls c k w->cls c k w':=by
    intro j _ V w w' D H;cases k with
    | none=>trivial
    | some k=>
     simp only[Zcg]at a7;unfold Fl at D;split at D
     ·rename_i ks Y
      have h1:=Zdg.1 a7.2 (j,ks) (Nk T j ks Y);simp only[V,Zcm]at h1;exact D k vD H
     exact D k H
   simp only[C8]at h;split at h
   ·rename_i lx
    exact Z1f
   rename_i lx
   exact Jz h0 (Zgt nm) bl gA _ s a w hk b0 (Zgs h0 cv) n0 (.inr ⟨by simpa using lx,rfl⟩) (cb cz _ _ w hw (b0.set n0) pa w3 h)
  | inr ks=>
   simp only[Ln,Zcg,Zhu]at A;obtain⟨⟨⟨a6,G⟩,U⟩,w3⟩:=A;have a0:T.lookup i=some ks.2:=by simpa using G
   have n0:i∈Region.ready md ops s:=by rw[a6];simp
   refine⟨fun h1=>uC,fun j av=>?_⟩;rw[a6]at av;have a2:j=i:=xW;subst a2;simp only[C8]at h;unfold Np;simp only[h0];have lx:=Nc (y:=#[]) h0 U a.tmps;rw[if_pos lx]at h;rw[if_pos lx];refine Mh (fun O w' h2=>⟨?_,cb ks.1 _ O w' (fun k a7=>h2.1.1 k xZ) (b0.set n0) pa w3 h2.2⟩) h;unfold Fl;rw[a0];exact h2.1.2
theorem Lj {T:List (Nat×List Nat)} (Y:Region.noSelect ops=true) {fin:List Nat->Array Bool->Bool} {n:Nat} {M:Act->World->Prop}
  (W:∀D s a w,(∀k,D.contains k=true->c k w)->G7 md ops s->fin D s=true->M a w->Lx P md ops (Fl c T) L n s a w)
  {A:List (Nat×Mx)} {s:Array Bool} {a:Act} {w:zN} {i:Nat} {ks:List Nat×List Nat}
  (O:G7 md ops s) (G:i<ops.size) (a0:∀p∈A,p.1<ops.size) (V:i∈Region.ready md ops s) (U:T.lookup i=some ks.2)
  (J:Ll ops i=true) (a1:Ln md ops T fin A ks.1 (s.setIfInBounds i true)=true) (h:C8 P ops c M (Bi ops ((i,.inr ks)::A)) a w):
  Np P ops (Fl c T i) i (fun a w=>Lx P md ops (Fl c T) L (A+n) (s.setIfInBounds i true) a w) a w:=by
 obtain⟨a2,h0⟩:∃o,ops[i]? =some o:=⟨_,Zbw G⟩
 rw[Nx h0]at h
 simp only[C8]at h
 unfold Np
 simp only[h0]
 have F:=Nc (y:=#[]) h0 J a.tmps
 rw[if_pos F]at h
 rw[if_pos F]
 refine Mh (fun H w' h2=>⟨?_,H6 Y W A ks.1 _ H w' (fun k a7=>h2.1.1 k xZ) (O.set V) a0 a1 h2.2⟩) h
 unfold Fl
 rw[U]
 exact h2.1.2
theorem B1 (h:L a w):C8 P ops c L [] a w:=h
theorem Ah (h:∀K:Act->Prop,(∀a,C8 P ops c L r a w->K a)->if Region.wanted o (yielded ops a.tmps)then ∃v,(∀w',True->Gd w' v ((execOp a.eval o).run P w'))/\K (a.put o.dst v)else K (a.put o.dst undef)):
  C8 P ops c L ((o,.inl none)::r) a w:=h (fun a=>C8 P ops c L r a w) (fun _ h=>h)
theorem Ba {k:Nat} (v:Value) (hw:Region.wanted o (yielded ops a.tmps)=true)
  (h:∀w',c k w'->Gd w' v ((execOp a.eval o).run P w')) (A:∀K:Act->Prop,(∀a,C8 P ops c L r a w->K a)->K (a.put o.dst v)):C8 P ops c L ((o,.inl (some k))::r) a w:=by
 simp only[C8,hw,Zia]
 exact⟨v,h,A (fun a=>C8 P ops c L r a w) (fun _ h=>h)⟩
theorem A1 {ks:List Nat×List Nat} (ar:o.guard=none)
  (h:∀K:Act->World->Prop,(∀A w',(∀k∈ks.1,c k w')->(∀k∈ks.2,c k w->c k w')->C8 P ops c L r A w'->K A w')->wpList P ops (Dz fun _ A w'=>K A w') [o] a w):C8 P ops c L ((o,.inr ks)::r) a w:=by
 have h1:=h (fun A w'=>((∀k∈ks.1,c k w')/\∀k∈ks.2,c k w->c k w')/\C8 P ops c L r A w') (fun _ _ h1 h2 h3=>⟨⟨h1,h2⟩,h3⟩)
 refine Z3h ?_
 intro hw
 simp only[C8]
 simp only[wpList]at h1
 rw[if_pos hw]at h1
 rw[if_pos hw]
 exact Z1J
theorem V0 {o:Oper} {a:Act} (t:TypeId) (Ay:Array (Nat×Operand)) (cells:Array Value) (A:o.op=.build t Ay)
  (U:P.built t (Ay.map fun(i,x)=>(i,a.eval x)).toList=some cells) (w':zN):Gd w' (.agg cells) ((execOp a.eval o).run P w'):=by
 unfold execOp
 simp only[A,Zgv,run_build w' t _ cells U,Zgu]
 exact⟨rfl,rfl⟩
theorem Jh (t:TypeId) (Ay:Array (Nat×Operand)) (cells:Array Value) (bx:o.op=.build t Ay) (ar:o.guard=none)
  (U:P.built t (Ay.map fun(i,x)=>(i,a.eval x)).toList=some cells) (h:∀K:Act->Prop,(∀a,C8 P ops c L r a w->K a)->K (a.put o.dst (.agg cells))):C8 P ops c L ((o,.inl none)::r) a w:=by
 refine Z3h ?_
 intro hw
 simp only[C8]
 exact Z2g
theorem Ain {r:List (Oper×(Option Nat ⊕ List Nat))} (t:TypeId) (Ay:Array (Nat×Operand)) (cells:Array Value) (bx:o.op=.build t Ay) (ar:o.guard=none)
  (U:P.built t (Ay.map fun(i,x)=>(i,a.eval x)).toList=some cells) (h:∀K:Act->Prop,(∀a,Dn P ops c L r a w->K a)->K (a.put o.dst (.agg cells))):Dn P ops c L ((o,.inl none)::r) a w:=by
 refine Z3h ?_
 intro hw
 simp only[Dn]
 exact Z2g
end
def Ir (S:List (Nat×Mx)):List (Nat×List Nat):=S.filterMap fun p=>match p.2 with | .inl _=>none | .inr ks=>some (p.1,ks.2)
def Xj (ops:Array Oper) (_:List Nat) (s:Array Bool):Bool:=(Region.ready .any ops s).isEmpty
theorem Qd {P:Program} {ops:Array Oper} {c:Nat->World->Prop} {L:Act->World->Prop} {T:List (Nat×List Nat)} (A:List Nat) (s:Array Bool) (a:Act) (w:zN) (_:∀k,A.contains k=true->c k w) (_:G7 .any ops s) (h:Xj ops A s=true) (D:L a w):Lx P .any ops (Fl c T) L 0 s a w:=
 ⟨by simpa[Xj]using h,D⟩
def Ly (ops:Array Oper) (S:List (Nat×Mx)):Bool:=S.all fun p=>decide (p.1<ops.size)
def Am6 (ops:Array Oper) (T:List (Nat×List Nat)) (i:Nat) (ks:List Nat×List Nat) (D:List (Nat×Mx)) (j:Nat) (A:List Nat×List Nat) (F:List (Nat×Mx)) (_:List Nat) (s:Array Bool):Bool:=
 decide (Region.ready .any ops s=[i,j])&&(T.lookup i==some ks.2)&&(T.lookup j==some A.2)&&Ll ops i&&Ll ops j&&
  Ln .any ops T (Xj ops) D ks.1 (s.setIfInBounds i true)&&Ln .any ops T (Xj ops) F A.1 (s.setIfInBounds j true)
def Ai4 (ops:Array Oper) (S:List (Nat×Mx)) (i:Nat) (ks:List Nat×List Nat) (A:List (Nat×Mx)) (j:Nat) (G:List Nat×List Nat) (D:List (Nat×Mx)) (F:List Nat):Bool:=
 Region.noSelect ops&&Ly ops S&&Ly ops A&&Ly ops D&&decide (i<ops.size)&&decide (j<ops.size)&&decide (S.length+(A.length+1)=ops.size)&&decide (D.length=A)&&
  Ln .any ops (Ir S++(i,ks.2)::Ir A) (Am6 ops (Ir S++(i,ks.2)::Ir A) i ks A j G D) S F (Array.replicate ops.size false)
def Vu (ops:Array Oper) (S:List (Nat×Mx)) (A:List Nat):Bool:=
 Region.noSelect ops&&Ly ops S&&decide (S.length=ops.size)&&Ln .any ops (Ir S) (Xj ops) S A (Array.replicate ops.size false)
theorem Lt {ops:Array Oper}:G7 .any ops (Array.replicate ops.size false):=by
 intro j o _ A;rw[Zhw]at A;cases A
theorem Tq {P:Program} {id:Nat} {Q:Exit->Act->World->Prop} {a:Act} {w:zN} {ops:List Oper} (S:List (Nat×Mx)) (i:Nat) (ks:List Nat×List Nat) (G:List (Nat×Mx)) (j:Nat) (T:List Nat×List Nat) (V:List (Nat×Mx))
  (c:Nat->World->Prop) (A:List Nat) (hm:P.follows .mixedOrders=true) (M:Ai4 ops.toArray S i ks G j T V A=true) (hC:∀k,A.contains k=true->c k (w.drewN 1))
  (h:C8 P ops.toArray c (fun a w=>C8 P ops.toArray c (fun a w=>Q .normal a w) (Bi ops.toArray ((i,.inr ks)::G)) a w/\C8 P ops.toArray c (fun a w=>Q .normal a w) (Bi ops.toArray ((j,.inr T)::V)) a w) (Bi ops.toArray S) a (w.drewN 1)):
  (Code.region id ops.toArray true).wp P Q a w:=by
 simp only[Ai4,Ly,Zcg,Zhu,Zdg]at M
 obtain⟨⟨⟨⟨⟨⟨⟨⟨F,a1⟩,aa⟩,ab⟩,Y⟩,a2⟩,hlen⟩,a7⟩,uq⟩:=M
 refine(Zii (n:=0)).1 (wpIn_region_any hm (He (r:=none) (R:=Fl c (Ir S++(i,ks.2)::Ir G)) (L:=fun a w=>Q .normal a w) (.inl rfl) (fun _ _ h=>h) _ _ _ _ ?_))
 rw[<-hlen]
 refine H6 F ?_ S A _ a (w.drewN 1) hC tP a1 wU h
 intro A s a w hw H J O
 simp only[Am6,Zcg,Zhu]at J
 obtain⟨⟨⟨⟨⟨⟨a6,a8⟩,a4⟩,a9⟩,a3⟩,W⟩,a0⟩:=J
 refine⟨fun h1=>uC,fun x D=>?_⟩
 have U:=D
 rw[a6]at U
 have a5:x=i\/x=j:=by simpa using U
 rcases a5 with rfl | rfl
 ·exact Lj F Qd H Y aa D (by simpa using a8) a9 W O.1
 have:=Lj F Qd H a2 ab D (by simpa using a4) a3 a0 O.2
 rw[a7]at this
 exact this
theorem Ce {P:Program} {id:Nat} {Q:Exit->Act->World->Prop} {a:Act} {w:zN} {ops:List Oper} (S:List (Nat×Mx))
  (c:Nat->World->Prop) (A:List Nat) (hm:P.follows .mixedOrders=true) (D:Vu ops.toArray S A=true) (hC:∀k,A.contains k=true->c k (w.drewN 1))
  (h:C8 P ops.toArray c (fun a w=>Q .normal a w) (Bi ops.toArray S) a (w.drewN 1)):
  (Code.region id ops.toArray true).wp P Q a w:=by
 simp only[Vu,Ly,Zcg,Zhu,Zdg]at D
 obtain⟨⟨⟨G,F⟩,hlen⟩,uq⟩:=D
 refine(Zii (n:=0)).1 (wpIn_region_any hm (He (r:=none) (R:=Fl c (Ir S)) (L:=fun a w=>Q .normal a w) (.inl rfl) (fun _ _ h=>h) _ _ _ _ ?_))
 rw[<-hlen]
 exact H6 G Qd S A _ a (w.drewN 1) hC tP F wU h
end
section
open Tryz
inductive Tr where
 | done
 | two (i:Nat) (ks:List Nat×List Nat) (q4:List (Nat×Mx)) (t1:Tr) (j:Nat) (nb:List Nat×List Nat) (x3:List (Nat×Mx)) (t2:Tr)
def Up:Tr->Nat
 | .done=>0
 | .two _ _ A t1 _ _ _ _=>A.length+Up t1+1
def Pj (P:Program) (ops:Array Oper) (c:Nat->World->Prop) (Q:Act->World->Prop):Tr->Act->World->Prop
 | .done,a,w=>Q a w
 | .two i ks D t1 j A F t2,a,w=>C8 P ops c (Pj P ops c Q t1) (Bi ops ((i,.inr ks)::D)) a w/\C8 P ops c (Pj P ops c Q t2) (Bi ops ((j,.inr A)::F)) a w
def Xl (ops:Array Oper) (T:List (Nat×List Nat)):Tr->List Nat->Array Bool->Bool
 | .done,_,s=>(Region.ready .any ops s).isEmpty
 | .two i ks A t1 j F D t2,_,s=>decide (Region.ready .any ops s=[i,j])&&(T.lookup i==some ks.2)&&(T.lookup j==some F.2)&&Ll ops i&&Ll ops j&&
   decide (i<ops.size)&&decide (j<ops.size)&&Ly ops A&&Ly ops D&&decide (D.length+Up t2=A+Up t1)&&
   Ln .any ops T (Xl ops T t1) A ks.1 (s.setIfInBounds i true)&&Ln .any ops T (Xl ops T t2) D F.1 (s.setIfInBounds j true)
theorem Xk {P:Program} {ops:Array Oper} {c:Nat->World->Prop} {L:Act->World->Prop} {T:List (Nat×List Nat)} (D:Region.noSelect ops=true):
  ∀(t:Tr) (A:List Nat) (s:Array Bool) (a:Act) (w:zN),(∀k,A.contains k=true->c k w)->G7 .any ops s->Xl ops T t A s=true->Pj P ops c L t a w->Lx P .any ops (Fl c T) L (Up t) s a w
 | .done,_,s,a,w,_,_,h,a2=>⟨by simpa[Xl]using h,a2⟩
 | .two i ks a9 t1 j a8 aa t2,A,s,a,w,hw,G,H,J=>by
  simp only[Xl,Ly,Zcg,Zhu,Zdg]at H;obtain⟨⟨⟨⟨⟨⟨⟨⟨⟨⟨⟨a6,a3⟩,a0⟩,a4⟩,Y⟩,U⟩,W⟩,a5⟩,a7⟩,hlen⟩,O⟩,V⟩:=H;refine⟨fun h1=>uC,fun x F=>?_⟩;have M:=F;rw[a6]at M;have a1:x=i\/x=j:=by simpa using M
  rcases a1 with rfl | rfl
  ·exact Lj D (n:=Up t1) (fun A s a w h1 h2 h3 h4=>Xk D t1 A s a w h1 h2 h3 h4) G U a5 F (by simpa using a3) a4 O J.1
  ·have:=Lj D (n:=Up t2) (fun A s a w h1 h2 h3 h4=>Xk D t2 A s a w h1 h2 h3 h4) G W a7 F (by simpa using a0) Y V J.2
   rw[hlen]at this;exact this
def Am0 (ops:Array Oper) (T:List (Nat×List Nat)) (S:List (Nat×Mx)) (t:Tr) (A:List Nat):Bool:=
 Region.noSelect ops&&Ly ops S&&decide (S.length+Up t=ops.size)&&Ln .any ops T (Xl ops T t) S A (Array.replicate ops.size false)
theorem Mn {P:Program} {id:Nat} {Q:Exit->Act->World->Prop} {a:Act} {w:zN} {ops:List Oper} (T:List (Nat×List Nat)) (S:List (Nat×Mx)) (t:Tr)
  (c:Nat->World->Prop) (A:List Nat) (hm:P.follows .mixedOrders=true) (D:Am0 ops.toArray T S t A=true) (hC:∀k,A.contains k=true->c k (w.drewN 1))
  (h:C8 P ops.toArray c (Pj P ops.toArray c (fun a w=>Q .normal a w) t) (Bi ops.toArray S) a (w.drewN 1)):
  (Code.region id ops.toArray true).wp P Q a w:=by
 simp only[Am0,Ly,Zcg,Zhu,Zdg]at D
 obtain⟨⟨⟨F,G⟩,hlen⟩,uq⟩:=D
 refine(Zii (n:=0)).1 (wpIn_region_any hm (He (r:=none) (R:=Fl c T) (L:=fun a w=>Q .normal a w) (.inl rfl) (fun _ _ h=>h) _ _ _ _ ?_))
 rw[<-hlen]
 exact H6 F (fun A s a w h1 h2 h3 h4=>Xk F t A s a w h1 h2 h3 h4) S A _ a (w.drewN 1) hC tP G wU h
theorem Pp {P:Program} {id:Nat} {Q:Exit->Act->World->Prop} {a:Act} {w:zN} {r:Option Nat} {n:Nat} {ops:List Oper} (S:List (Nat×Mx))
  (c:Nat->World->Prop) (A:List Nat) (G:r=none\/N5 ops.toArray=true) (hm:P.follows .mixedOrders=true) (D:Vu ops.toArray S A=true) (hC:∀k,A.contains k=true->c k (w.drewN 1))
  (h:C8 P ops.toArray c (fun a w=>Q .normal a w) (Bi ops.toArray S) a (w.drewN 1)):
  (Code.region id ops.toArray true).wpIn (Open r) n P Q a w:=by
 simp only[Vu,Ly,Zcg,Zhu,Zdg]at D
 obtain⟨⟨⟨H,F⟩,hlen⟩,uq⟩:=D
 refine wpIn_region_any hm (He (R:=Fl c (Ir S)) (L:=fun a w=>Q .normal a w) G (fun _ _ h=>h) _ _ _ _ ?_)
 rw[<-hlen]
 exact H6 H Qd S A _ a (w.drewN 1) hC tP F wU h
theorem Zj {P:Program} {id:Nat} {Q:Exit->Act->World->Prop} {a:Act} {w:zN} {r:Option Nat} {n:Nat} {ops:List Oper} (S:List (Nat×(Option Nat ⊕ List Nat))) (c:Nat->World->Prop) (cz:List Nat)
  (D:r=none\/N5 ops.toArray=true) (hm:P.follows .mixedOrders=true) (A:Vv ops.toArray S cz=true) (hC:∀k,cz.contains k=true->c k (w.drewN 1))
  (h:Dn P ops.toArray c (fun a w=>Q .normal a w) (Bi ops.toArray S) a (w.drewN 1)):
  (Code.region id ops.toArray true).wpIn (Open r) n P Q a w:=by
 simp only[Vv,Zcg,Zhu,Zdg]at A
 obtain⟨⟨⟨nm,ao⟩,hlen⟩,uq⟩:=A
 refine wpIn_region_any hm (He (R:=Kr c (U7 S)) (L:=fun a w=>Q .normal a w) D (fun _ _ h=>h) _ _ _ _ ?_)
 exact Z2c
section
variable {P:Program} {ops:Array Oper} {L:Act->World->Prop} {c:Nat->World->Prop} {a:Act} {w:zN} {o:Oper} {r:List (Oper×Mx)}
theorem Alp {ks:List Nat×List Nat} {m l:Nat} {f:FuncId} {tmps:Array Value} {A D:Code} (ar:o.guard=none) (h:(execOp a.eval o).run P w=.ok (.round l f tmps A D) w)
  (F:RoundIn Fence.wide m P l f tmps A D w fun e X=>∃v,e=.returned v/\((∀k∈ks.1,c k X)/\∀k∈ks.2,c k w->c k X)/\C8 P ops c L r (a.put o.dst v) X):C8 P ops c L ((o,.inr ks)::r) a w:=by
 refine Z3h ?_
 intro hw
 simp only[C8]
 rw[if_pos hw]
 unfold Ka
 rw[h]
 exact Aas (m:=0) (Jf (r:=none) (n:=0) F)
end
theorem wp_cut {P:Program} {c:Code} {Q:Exit->Act->World->Prop} {a:Act} {w:zN} (R:Act->World->Prop)
  (first:c.wp P (fun e a w=>e=.normal/\R a w) a w) (rest:∀a w,R a w->Q .normal a w):c.wp P Q a w:=
 Code.wp_mono (fun e a w ⟨h,r⟩=>by subst h;exact rest a w r) first
end
section
open Tryz
def Im (ops:Array Oper) (j:Nat):Option Tmp:=(ops[j]?).bind (·.dst)
def Ew (ops:Array Oper) (vs:Nat->Value) (s:Nat->Bool):Nat->Act->Act
 | 0,a=>a
 | n+1,a=>if s n then(Ew ops vs s n a).put (Im ops n) (vs n)else Ew ops vs s n a
section
variable {ops:Array Oper}
theorem Qv {vs vs':Nat->Value} {s s':Nat->Bool} {a:Act}:∀n,(∀j,j<n->s j=s' j/\(s j=true->vs j=vs' j))->Ew ops vs s n a=Ew ops vs' s' n a
 | 0,_=>rfl
 | n+1,h=>by
  have h1:=Qv n (fun j D=>h j yE) (a:=a);obtain⟨h2,h3⟩:=h n yE;simp only[Ew,h1,<-h2];split
  ·rename_i A;rw[h3 A]
  ·rfl
theorem Alc (a:Act) (d:Option Tmp) (v:Value):(a.put d v).tmps.size=a.tmps.size:=by
 cases d<;>simp[Act.put]
theorem O6 {vs:Nat->Value} {s:Nat->Bool} {a:Act}:∀n,(Ew ops vs s n a).tmps.size=a.tmps.size
 | 0=>rfl
 | n+1=>by
  simp only[Ew];split
  ·rw[Alc,O6 n]
  ·exact O6 n
theorem Xn {a b:Act} {x:Operand} (h:a.eval x=b.eval x) (D:a.tmps.size=b.tmps.size) (d:Option Tmp) (v:Value):(a.put d v).eval x=(b.put d v).eval x:=by
 cases d with
 | none=>exact h
 | some d=>
  cases x with
  | tmp t=>
   by_cases A:d=t
   ·subst A
    simp[Act.eval,Act.put,Array.getElem?_setIfInBounds_self,D]
   simpa[Act.eval,Act.put,Array.getElem?_setIfInBounds_ne A]using h
  | _=>exact h
theorem Yf {vs:Nat->Value} {s s':Nat->Bool} {a:Act} {x:Operand}:∀n,(∀j,j<n->s j≠s' j->∀d,Im ops j=some d->x≠.tmp d)->(Ew ops vs s n a).eval x=(Ew ops vs s' n a).eval x
 | 0,_=>rfl
 | n+1,h=>by
  have h1:=Yf n (fun j F=>h j yE) (vs:=vs) (a:=a);have h2:=h n yE;simp only[Ew];cases A:s n<;>cases D:s' n<;>rw[A,D]at h2<;>simp only[Zbd,Zhz,Zia]
  ·exact h1
  ·rw[h1];exact(Act.eval_put (h2 yF)).symm
  ·rw[<-h1];exact Act.eval_put (h2 yF)
  ·exact Xn h1 (by rw[O6,O6]) _ _
theorem Aa2 {vs:Nat->Value} {s:Nat->Bool} {a:Act} {i:Nat} {v:Value} (D:s i=false):∀n,i<n->(∀j,j<n->j≠i->∀d,Im ops j=some d->Im ops i≠some d)->
  (Ew ops vs s n a).put (Im ops i) v=Ew ops (fun j=>if j=i then v else vs j) (fun j=>if j=i then true else s j) n a
 | 0,h,_=>yE
 | n+1,h,F=>by
  by_cases A:n=i
  ·subst A
   simp only[Ew,D,Zbd,Zhz,Zia];rw[Qv n (vs':=fun j=>if j=n then v else vs j) (s':=fun j=>if j=n then true else s j) (fun j H=>?_)];have:¬j=n:=yE;simp[this]
  ·have G:=Aa2 D n yE (fun j H=>F j yE) (vs:=vs) (a:=a) (v:=v)
   simp only[Ew];rw[if_neg A,if_neg A];split
   ·rw[Zbt _ (vs n) v (F n yE A),G]
   ·exact G
end
def I8 (ops:Array Oper) (i:Nat):List Nat:=match ops[i]? with
 | some o=>(o.after.toList.filter fun e=>Region.binds .any e).map (·.on)
 | none=>[]
def Ag9 (ops:Array Oper):Bool:=
 Region.noSelect ops&&N5 ops&&(List.range ops.size).all fun i=>match ops[i]? with
  | none=>false
  | some o=>o.guard.isNone&&(I8 ops i).all (·<i)&&(List.range ops.size).all fun j=>match Im ops j with
   | none=>true
   | some d=>((I8 ops i).contains j|| !(o.looksAt ops).contains d)&&(j==i||o.dst != some d)
def Ft (P:Program) (w:zN) (K:Value->World->Prop):Result Next->Prop
 | .ok (.value v) w'=>K v w'
 | .ok .skip w'=>K undef w'
 | .ok (.enter f args) w'=>Calls P f args w' fun e A=>∃v,e=.returned v/\K v A
 | _=>False
theorem Agm {P:Program} {o:Oper} {a b:Act} {w:zN} {K:Value->World->Prop} {L:Act->World->Prop} (he:execOp a.eval o=execOp b.eval o) (h:Ft P w K ((execOp b.eval o).run P w)) (A:∀v w',K v w'->L (a.put o.dst v) w'):Ka P o a w L:=by
 unfold Ka;rw[he];generalize(execOp b.eval o).run P w=r at*
 cases r with
 | ok n w'=>
  cases n<;>simp only[Ft]at h<;>simp only[Rr]
  ·exact A _ _ h
  ·exact A _ _ h
  exact Calls.mono h fun e F ⟨v,D,h1⟩=>⟨v,D,A _ _ h1⟩
 | halt x w'=>simp only[Ft]at h
def Jb (s:Array Bool) (n:Nat):Nat:=((List.range n).filter fun j=> !s.getD j true).length
theorem Ac1 {s:Array Bool} {n:Nat} (h:Jb s n=0):∀j,j<n->s.getD j true=true:=fun j av=>by
 have:=Zds h;rw[List.filter_eq_nil_iff]at this;simpa using this j xW
theorem U2 {s:Array Bool} {i:Nat}:∀ {n:Nat},i<n->s.getD i true=false->Jb (s.setIfInBounds i true) n+1=Jb s n
 | 0,h,_=>yE
 | n+1,h,A=>by
  unfold Jb at*
  rw[List.range_succ,Zdt,Zdt,Zbj,Zbj];by_cases e:i=n
  ·subst e
   have h1:(s.setIfInBounds i true).getD i true=true:=by
    rcases Zga i s.size with F | F
    ·simp[F]
    ·simp[F]at A
   have h2:(List.range i).filter (fun j=> !(s.setIfInBounds i true).getD j true)=(List.range i).filter (fun j=> !s.getD j true):=by
    refine List.filter_congr fun j D=>?_
    have:i≠j:=by have:=Zfd.1 D;omega
    rw[getD_set_ne true this]
   rw[h2];have h4:List.filter (fun j=> !(s.setIfInBounds i true).getD j true) [i]=[]:=by rw[List.filter_cons_of_neg (by rw[h1];simp)];rfl
   have h5:List.filter (fun j=> !s.getD j true) [i]=[i]:=by rw[List.filter_cons_of_pos (by rw[A];rfl)];rfl
   rw[h4,h5];rfl
  ·have h1:=U2 (n:=n) yE A
   unfold Jb at h1;have h3:(List.filter (fun j=> !(s.setIfInBounds i true).getD j true) [n]).length=(List.filter (fun j=> !s.getD j true) [n]).length:=by
    rw[List.filter_congr (q:=fun j=> !s.getD j true)];intro j D;rw[List.mem_singleton.1 D,getD_set_ne true e]
   omega
theorem U3 {s:Array Bool} {n:Nat} (h:∀j,j<n->s.getD j true=true):Jb s n=0:=by
 unfold Jb;rw[Zeo,List.filter_eq_nil_iff];intro j av;simp[h j xW]
theorem Pa {s:Array Bool} {j:Nat} (A:j<s.size) (h:s.getD j true=true):s.getD j false=true:=by
 rcases D:s.getD j false with _ | _
 ·rw[getD_in A D]at h;exact absurd h yF
 rfl
structure Am9 (ops:Array Oper):Prop where
 sel:Region.noSelect ops=true
 Ar5:N5 ops=true
 at_:∀i o,ops[i]? =some o->o.guard=none/\(∀j,(I8 ops i).contains j=true->j<i)/\∀j,j<ops.size->∀d,Im ops j=some d->((I8 ops i).contains j=false->d∉o.looksAt ops)/\(j≠i->o.dst≠some d)
theorem Ag8 {ops:Array Oper} (h:Ag9 ops=true):Am9 ops:=by
 simp only[Ag9,Zcg,Zdg,Zfd]at h;obtain⟨⟨h1,h2⟩,h3⟩:=h;refine⟨h1,h2,fun i o A=>?_⟩;have h4:=h3 i (Zbx.1 A).1;rw[A]at h4;simp only[Zcg,Zdg,Zfd,Zhu]at h4;obtain⟨⟨h5,h6⟩,h7⟩:=h4;refine⟨by simpa using h5,fun j av=>h6 j xW,fun j av d F=>?_⟩;have h8:=h7 j av;rw[F]at h8;simp only[Zcg,Zcl]at h8;refine⟨fun D hm=>?_,fun G he=>?_⟩
 ·rcases h8.1 with h | h
  ·rw[D]at h;cases h
  simp[hm]at h
 rcases h8.2 with h | h
 ·exact G yV
 simp[he]at h
theorem Ye {ops:Array Oper} {vs:Nat->Value} {s:Nat->Bool} {a:Act}:∀n,(∀j,s j=false)->Ew ops vs s n a=a
 | 0,_=>rfl
 | n+1,h=>by simp only[Ew,h n,Zbd,Zhz];exact Ye n h
def Kg (n m:Nat):Array Bool:=(List.replicate n true++List.replicate m false).toArray
theorem V9 (n m j:Nat) (d:Bool):(Kg n m).getD j d=if j<n then true else if j<n+m then false else d:=by
 simp only[Kg,Zbv,Zah,List.getElem?_append,Zer,List.getElem?_replicate];split
 ·rfl
 split
 ·rw[if_pos yE];rfl
 rw[if_neg yE];rfl
theorem Ajz {P:Program} {ops:Array Oper} {T:Nat->World->World->Prop} {R:World->World->Prop} {I:World->Prop} {V:Nat->Value->World->Prop} {L:Act->World->Prop} (hF:Am9 ops) (ad:∀i w w',T i w w') (an:∀i v w w',R w w'->V i v w->V i v w') (a0:Act)
  (n:Nat) (ap:n<=ops.size) (af:∀i,n<=i->i<ops.size->∀j,j<n->(I8 ops i).contains j=true)
  (ae:∀i o,i<n->ops[i]? =some o->∀vs w,I w->(∀j,(I8 ops i).contains j=true->V j (vs j) w)->Ft P w (fun v w'=>I w'/\R w w'/\V i v w') ((execOp (Ew ops vs (fun _=>true) ops.size a0).eval o).run P w))
  (am:∀vs w,I w->(∀j,j<n->V j (vs j) w)->Lx P .any ops T L (ops.size - n) (Kg n (ops.size - n)) (Ew ops vs (fun j=>decide (j<n)) ops.size a0) w):
  ∀(f:Nat) (s:Array Bool) (vs:Nat->Value) (w:zN),s.size=ops.size->Jb s n=f->(∀j,n<=j->s.getD j false=false)->I w->(∀j,j<n->s.getD j false=true->V j (vs j) w)->
   Lx P .any ops T L (f+(ops.size - n)) s (Ew ops vs (fun j=>s.getD j false) ops.size a0) w:=by
 intro f
 induction f with
 | zero=>
  intro s vs w M hu O hI D;have J:=Ac1 hu;have a1:∀j,s.getD j false=decide (j<n):=fun j=>by
   by_cases A:j<n
   ·rw[Pa yE (J j A)];simp[A]
   rw[O j yE];simp[A]
  have ac:s=Kg n (ops.size - n):=by
   refine Array.ext (by simp[Kg,M];omega) fun j h1 h2=>?_
   have ah:s.getD j false=s[j]:=by simp[h1]
   have ag:(Kg n (ops.size - n)).getD j false=(Kg n (ops.size - n))[j]:=by simp[h2]
   rw[<-ah,<-ag,a1,V9];by_cases A:j<n<;>simp[A]
  rw[show(fun j=>s.getD j false)=fun j=>decide (j<n)from funext a1,Zac,ac];exact am vs w hI (fun j A=>D j A (by rw[a1];simpa using A))
 | succ f ai=>
  intro s vs w M hu O hI D;rw[show f+1+(ops.size - n)=f+(ops.size - n)+1 from yE];refine⟨fun h0=>?_,fun i ab=>?_⟩
  ·exfalso
   have J:∀j,j<n->s.getD j true=true:=by
    intro j
    induction j using Nat.strongRecOn with
    | _ j al=>
     intro A;rcases H:s.getD j true with _ | _
     ·exfalso
      have a2:j<ops.size:=yE;have hm:j∈Region.ready .any ops s:=by
       refine mem_ready.2 ⟨H,ops[j],Zbw a2,fun e he U=>?_⟩;have G:=(hF.at_ j _ (Zbw a2)).2.1 e.on (by
        unfold I8;rw[Zbw a2];simp only[Zdo,Zfb,Zez,Zca];exact⟨e,⟨he,U⟩,rfl⟩)
       exact Pa yE (al e.on G yE)
      rw[h0]at hm;cases hm
     rfl
   rw[U3 J]at hu;cases hu
  obtain⟨a4,o,F,aj⟩:=mem_ready.1 ab;have G:=(Zbx.1 F).1;obtain⟨ar,aa,a6⟩:=hF.at_ i o F;have a5:Im ops i=o.dst:=by simp[Im,F]
  have Y:∀j,(I8 ops i).contains j=true->s.getD j false=true:=fun j A=>by
   unfold I8 at A;rw[F]at A;simp only[Zdo,Zfb,Zez,Zca]at A;obtain⟨e,⟨he,U⟩,rfl⟩:=A;exact aj e he U
  have a7:i<n:=by
   rcases Zga i n with h | h
   ·exact h
   have J:∀j,j<n->s.getD j true=true:=fun j A=>by
    have:=Y j (af i h G j A);rcases H:s.getD j true with _ | _
    ·rw[getD_both H]at this;cases this
    ·rfl
   rw[U3 J]at hu;cases hu
  have hw:Region.wanted o (yielded ops (Ew ops vs (fun j=>s.getD j false) ops.size a0).tmps)=true:=vJ;unfold Np;simp only[F,hw,Zia];have he:execOp (Ew ops vs (fun j=>s.getD j false) ops.size a0).eval o=execOp (Ew ops vs (fun _=>true) ops.size a0).eval o:=
   execOp_congr o (fun cs b=>Zgt hF.sel i o cs b F) (fun x a9=>Yf ops.size (fun j A cf d D ak=>by
    have a8:(I8 ops i).contains j=false:=by
     rcases H:(I8 ops i).contains j with _ | _
     ·rfl
     exact absurd (Y j H) vO
    refine(a6 j A d D).1 a8 ?_;subst ak;exact List.mem_append_left _ (List.mem_filterMap.2 ⟨.tmp d,by simpa using a9,rfl⟩)))
  refine Agm he (ae i o a7 F vs w hI (fun j A=>D j (by have:=aa j A;omega) (Y j A))) (fun v w' h=>⟨ad _ _ _,?_⟩);have ao:s.getD i false=false:=getD_both a4;rw[<-a5,Aa2 (s:=fun j=>s.getD j false) ao ops.size G (fun j A cf d D=>by rw[a5];exact(a6 j A d D).2 cf)];have W:∀j,(s.setIfInBounds i true).getD j false=if j=i then true else s.getD j false:=fun j=>by
   by_cases e:j=i
   ·subst e
    rw[if_pos rfl];simp[M,G]
   rw[if_neg e,getD_set_ne false (fun h=>e h.symm)]
  rw[Qv (vs':=fun j=>if j=i then v else vs j) (s':=fun j=>(s.setIfInBounds i true).getD j false) ops.size (fun j A=>⟨(W j).symm,fun _=>rfl⟩)];refine ai _ _ w' (by simpa using M) ?_ (fun j A=>by rw[W,if_neg yE];exact O j A) h.1 (fun j A a3=>?_)
  ·have:=U2 a7 a4;omega
  by_cases e:j=i
  ·subst e
   simp only[Zia];exact h.2.2
  simp only[if_neg e];rw[W j,if_neg e]at a3;exact an j _ w w' h.2.1 (D j A a3)
def Am1 (ops:Array Oper) (n:Nat):Bool:=decide (n<=ops.size)&&(List.range ops.size).all fun i=>decide (i<n)||(List.range n).all fun j=>(I8 ops i).contains j
def Ai3 (ops:Array Oper) (n:Nat) (S:List (Nat×Mx)):Bool:=Ag9 ops&&Am1 ops n&&decide (S=ops.size - n)&&Ly ops S&&Ln .any ops (Ir S) (Xj ops) S [] (Kg n (ops.size - n))
theorem Tp {P:Program} {id:Nat} {Q:Exit->Act->World->Prop} {a:Act} {w:zN} {ops:List Oper} (n:Nat) (S:List (Nat×Mx)) (R:World->World->Prop) (I:World->Prop) (V:Nat->Value->World->Prop) (hm:P.follows .mixedOrders=true) (G:Ai3 ops.toArray n S=true)
  (a1:∀i v w w',R w w'->V i v w->V i v w') (hI:I (w.drewN 1))
  (O:∀i o,i<n->ops[i]? =some o->∀vs w,I w->(∀j,(I8 ops.toArray i).contains j=true->V j (vs j) w)->Ft P w (fun v w'=>I w'/\R w w'/\V i v w') ((execOp (Ew ops.toArray vs (fun _=>true) ops a).eval o).run P w))
  (a0:∀vs w,I w->(∀j,j<n->V j (vs j) w)->C8 P ops.toArray (fun _ _=>True) (fun a w=>Q .normal a w) (Bi ops.toArray S) (Ew ops.toArray vs (fun j=>decide (j<n)) ops a) w):
  (Code.region id ops.toArray true).wp P Q a w:=by
 simp only[Ai3,Am1,Ly,Zcg,Zhu,Zdg,Zfd,Zcl]at G
 obtain⟨⟨⟨⟨W,F,T⟩,hlen⟩,a2⟩,a3⟩:=G
 have hF:=Ag8 W
 have M:G7 .any ops.toArray (Kg n (ops.toArray.size - n)):=by
  intro j o A D e he U;rw[V9]at D|-;have a4:j<n:=by
   rcases Zga j n with h | h
   ·exact h
   rw[if_neg yE]at D;split at D<;>cases D
  have:=(hF.at_ j o A).2.1 e.on (by
   unfold I8;rw[A];simp only[Zdo,Zfb,Zez,Zca];exact⟨e,⟨he,U⟩,rfl⟩)
  rw[if_pos yE]
 have H:∀i w w',Fl (fun _ _=>True) (Ir S) i w w':=fun i w w'=>by
  unfold Fl;split
  ·exact fun _ _ _=>trivial
  first | exact fun _ _=>trivial | exact fun _ _ _=>trivial
 refine(Zii (n:=0)).1 (wpIn_region_any hm (He (r:=none) (R:=Fl (fun _ _=>True) (Ir S)) (L:=fun a w=>Q .normal a w) (.inl rfl) (fun _ _ h=>h) _ _ _ _ ?_))
 have h:=Ajz (P:=P) (ops:=ops.toArray) (L:=fun a w=>Q .normal a w) hF H a1 a n F (fun i h1 h2 j h3=>(T i h2).elim (fun h=>yE) fun h=>h j h3) (fun i o J Y=>by simpa using O i o J (by simpa using Y)) (fun vs w hI D=>by
   have:=H6 (P:=P) (L:=fun a w=>Q .normal a w) hF.sel Qd S [] (Kg n (ops.toArray.size - n)) (Ew ops.toArray vs (fun j=>decide (j<n)) ops.toArray.size a) w yF M a2 a3 (by simpa using a0 vs w hI D);rw[hlen]at this;exact this) (Jb (Array.replicate ops.toArray.size false) n) (Array.replicate ops.toArray.size false) (fun _=>undef) (w.drewN 1) yF rfl (fun j _=>Zhw _ _) hI (fun j _ A=>by rw[Zhw]at A;cases A)
 rw[Ye _ (fun j=>Zhw _ _)]at h
 have hu:Jb (Array.replicate ops.toArray.size false) n=n:=by
  unfold Jb;rw[List.filter_eq_self.2]
  ·simp
  intro j A;have:=Zfd.1 A;have h2:j<ops.length:=by simpa using Zal this F
  simp[h2]
 rw[hu,show n+(ops.toArray.size - n)=ops.toArray.size from yE]at h
 exact h
end
end Go.Proofs.YtafmoofknjncpaaGreatDoor
