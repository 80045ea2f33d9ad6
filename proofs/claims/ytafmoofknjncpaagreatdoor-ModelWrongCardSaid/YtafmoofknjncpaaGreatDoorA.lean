/- A part of the proof that ModelWrong holds: its theorems stand as they are typed. -/
import Derived.Test.YtafmoofknjncpaaGreatDoorZm
set_option linter.all false
set_option maxRecDepth 100000
set_option maxHeartbeats 8000000
namespace Go.Proofs.YtafmoofknjncpaaGreatDoor
section
open Tryz Go.RowKit
variable {P:Program}
def At (B:Nat) (I:World->Prop):Prop:=∀A C row,I A->A.grownBy C row->(∀r,row=some r->B<=r/\∃o,A.heap[r]? =some o/\o.isCells=false)->I C
theorem At.put {B:Nat} {I:World->Prop} (h:At B I) {A:zN} {r:Nat} {o:Obj} (G:I A) (F:B<=r) (J:A.heap[r]? =some o) (H:o.isCells=false) (D:Obj):I (A.putObj r D):=
 h A _ (some r) G (Zhx A r D) (fun j e=>by cases e;exact⟨F,o,J,H⟩)
theorem At.new {B:Nat} {I:World->Prop} (h:At B I) {A:zN} (D:I A) (o:Obj):I (A.alloc o):=
 h A _ none D (Zhf A o none) (fun j e=>yW)
theorem At.mono {B F:Nat} {I:World->Prop} (h:At B I) (U:B<=F):At F I:=
 fun A C row G H D=>h A C row G H fun r e=>⟨Zag U (D r e).1,(D r e).2⟩
theorem At.and {B:Nat} {I H:World->Prop} (h:At B I) (k:At B H):At B fun w=>I w/\H w:=
 fun A C row F G D=>⟨h A C row F.1 G D,k A C row F.2 G D⟩
theorem B5 (w:zN) (n:Nat) (row:Option Nat):w.grownBy (w.drewN n) row:=
 ⟨by induction n generalizing w<;>simp_all[World.drewN],by rw[World.tape_drewN],by induction n generalizing w<;>simp_all[World.drewN],by rw[World.heap_drewN];exact Zab _,fun _ _ _=>by rw[World.heap_drewN]⟩
theorem At.drewN {B:Nat} {I:World->Prop} (h:At B I) {A:zN} (D:I A) (k:Nat):I (A.drewN k):=
 h A _ none D (B5 A k none) (fun j e=>yW)
theorem At.below {B m:Nat} {I:World->Prop} (h:At B I) {A C:zN} (F:I A) (g:Below m A C) (hm:A<=m):I C:=
 h A C none F ⟨g.os,g.tape,g.output,g.size,fun k D _=>g.block k (Zal D hm)⟩ (fun j e=>yW)
theorem At.or {B:Nat} {I H:World->Prop} (h:At B I) (k:At B H):At B fun w=>I w\/H w:=
 fun A C row D G F=>D.imp (fun D=>h A C row D G F) (fun D=>k A C row D G F)
theorem At.pure {B:Nat} (p:Prop):At B fun _=>p:=fun _ _ _ A _ _=>A
structure Cg (n B kb:Nat) (X cn:zN):Prop where
 size:X.heap.size<=cn
 same:∀(k:Nat) (o:Obj),(if o.isCells then k<n\/B<=k else kb<=k)->X.heap[k]? =some o->cn.heap[k]? =some o
theorem Cg.refl (n B A:Nat) (X:zN):Cg n B A X X:=⟨Zab _,fun _ _ _ h=>h⟩
theorem Cg.trans {n B A:Nat} {X Y Z:zN} (h:Cg n B A X Y) (k:Cg n B A Y Z):Cg n B A X Z:=⟨Zag h.size k.size,fun j o D h0=>k.same j o D (h.same j o D h0)⟩
theorem Cg.Gz {n F B D C A:Nat} {X Y:zN} (h:Cg n B D X Y) (H:F<=n) (U:B<=C) (J:D<=A):Cg F C A X Y:=⟨h.size,fun j o G h0=>h.same j o (by
 split at G<;>rename_i he<;>simp only[he,Zia,Zhz,Zbd]<;>omega) h0⟩
theorem Cg.put {n B D:Nat} {X:zN} {l:Nat} {o:Obj} (G:X.heap[l]? =some o) (F:o.isCells=false) (U:l<D) (H:Obj):Cg n B D X (X.putObj l H):=⟨vK,fun j p hp A=>by
 have:j≠l:=fun e=>by subst e;rw[G]at A;cases A;rw[F]at hp;simp at hp;omega
 exact(Zhj this).trans A⟩
theorem Cg.below {n B A m:Nat} {X Y:zN} (g:Below m X Y) (hm:X<=m):Cg n B A X Y:=⟨g.size,fun j o _ h0=>
 (g.block j (Zal (Zbx.1 h0).1 hm)).trans h0⟩
theorem Cg.grown {n B A:Nat} {X Y:zN} {row:Option Nat} (g:X.grownBy Y row) (D:∀r,row=some r->∃o,X.heap[r]? =some o/\(if o.isCells then n<=r/\r<B else r<A)):Cg n B A X Y:=⟨g.size,fun j o F h0=>by
 refine(g.block j (Zbx.1 h0).1 (fun e=>?_)).trans h0;obtain⟨p,hp,G⟩:=D j e.symm;rw[hp]at h0;cases h0;split at F<;>rename_i he<;>simp only[he,Zia,Zhz,Zbd]at G<;>omega⟩
theorem Cg.from {n B A C:Nat} {X Y:zN} (h:Cg n B A X Y) (G:A<=C):KeepsFrom C X Y:=⟨h.size,fun k o F h0 D=>h.same k o (by rw[D];simp;omega) h0⟩
def Iter (P:Program) (gf:Nat) (lb:Array Value) (N:Nat) (ok:Nat->Array Value->World->Prop) (Kp:World->World->Prop) (w:zN):Prop:=
 ∀(m l:Nat) (A:Nat->World->Prop) (F:World->Prop) (W:zN),Below w w W->w.heap.size+2<=W->(∀k,At W (A k))->At W F->
  (∀k X args,k<N->ok k args X->A k X->YieldAt Fence.wide (m - 1) P l args X fun e D=>(e=.returned (.bool true)/\A (k+1) D/\Kp X D)\/(e=.returned (.bool false)/\F D/\Kp X D))->
  A 0 W->CallsIn Fence.wide m P gf (#[.func (.yield l) #[] #[]]++lb) W fun e G=>(∃v,e=.returned v)/\(A N G\/F G)
def Ui (B:Nat) (Kp:World->World->Prop) (I:World->Prop) (D:Code->World->Prop) (W:zN):Exit->Act->World->Prop
 | .normal,_,A=>KeepsFrom B W A/\Kp W A/\I A
 | .ret,_,A=>KeepsFrom B W A/\Kp W A/\D .ret A
 | .exit id,_,A=>KeepsFrom B W A/\Kp W A/\D (.exit id) A
 | .goto t,_,A=>KeepsFrom B W A/\Kp W A/\D (.goto t) A
 | .panic _,_,_=>False
 | .outgrown,_,_=>False
theorem Gp {g:Operand} {T:Array Tmp} {assign body:Code} {Q:Exit->Act->World->Prop} {a:Act} {w:zN} {n:Nat}
  {gf:Nat} {lb:Array Value} (ar:a.eval g=.func (.func gf) #[] lb) (a8:∀args w,(callFunc gf args).run P w=.ok (.enter gf args) w)
  {N:Nat} {ok:Nat->Array Value->World->Prop} {Kp:World->World->Prop} (hit:Iter P gf lb N ok Kp w) (ab:∀k args X,ok k args X->args.size=T.size)
  (D:∀ {A B C:zN},Kp A B->Kp B C->Kp A C) (F:∀(W:zN) (l:Nat) (o a9:Obj),w.heap.size<=l->l<w.heap.size+2->W.heap[l]? =some o->o.isCells=false->Kp W (W.putObj l a9))
  (I:Nat->World->Prop) (V:Code->World->Prop) (hI:∀k,At w (I k)) (w4:∀c,At w (V c)) (h0:I 0 w)
  (Y:Nat->Act->World->Prop) (hAx:∀k ak,At w (Y k ak))
  (a2:∀(l k:Nat) (args:Array Value) (W:zN) (K:Act->World->Prop),k<N->I k W->ok k args W->(∀ak O,KeepsFrom w W O->Kp W O->I k O->Y k ak O->K ak O)->
   assign.wpIn (Fence.wide.inRound l) (n - 1 - 1) P (Exit.then K (fun _ _ _=>False)) {tmps:=(T.zip args).foldl (fun t (p,v)=>t.setIfInBounds p v) a.tmps,defers:=[]} W)
  (bkt:∀(l k:Nat) (ak:Act) (W:zN),k<N->w.heap.size<=l->I k W->Y k ak W->body.wpIn (Fence.wide.inRound l) (n - 1 - 1) P (Ui w Kp (I (k+1)) V W) ak W)
  (kO:∀(W:zN),I N W->W.heap[w.heap.size]? =some (.deferred (some []))->Q .normal {a with defers:={target:=.collected w,args:=#[]}::a.defers} W)
  (bmf:∀(c:Code) (W:zN),V c W->W.heap[w.heap.size]? =some (.deferred (some []))->c.wpIn Fence.wide n P Q {a with defers:={target:=.collected w,args:=#[]}::a.defers} W):
  (Code.rangeFunc g T assign body).wpIn Fence.wide n P Q a w:=by
 have a5:Fence.wide.depth.isSome=true->1<=n:=fun h=>yT
 refine wpIn_rangeFunc fun fn a1=>?_
 let la:LoopState->Option Code->Loop:=fun st a4=>{state:=st,pending:=a4,fn,tmps:=a.tmps,params:=T,assign,body,defers:=w.heap.size}
 let km:=(w.alloc (.deferred (some []))).alloc (.loop (la .ready none))
 refine Z0D ?_
 intro bjp bjo aa oz
 refine⟨w.heap.size+1,[{target:=.collected w,args:=#[]}],km,{target:=.fn (.func gf) lb,args:=#[.func (.yield (w.heap.size+1)) #[] #[]]},km,gf,
  #[.func (.yield (w.heap.size+1)) #[] #[]]++lb,km,run_enterLoop_outer _ _ _ _ _,?_,fun _ _=>trivial,?_,a5,?_⟩
 ·simp only[resolve,ar]
  simp[go_sem]
 ·simp[invoke,go_sem,a8]
 refine Z3B ?_
 intro aX
 refine(hit (n - 1) (w.heap.size+1)
  (fun k W=>I k W/\W.heap[w.heap.size+1]? =some (.loop (la .ready none))/\W.heap[w.heap.size]? =some (.deferred (some [])))
  (fun W=>∃c,V c W/\W.heap[w.heap.size+1]? =some (.loop (la .done (some c)))/\W.heap[w.heap.size]? =some (.deferred (some [])))
  km aa yE (fun k=>((hI k).mono aa.size).and ((aX _ _ yE).and (aX _ _ yE)))
  (fun A C row h ar a6=>by
   obtain⟨c,h1,h2,h3⟩:=h;exact⟨c,((w4 c).mono aa.size) A C row h1 ar a6,aX _ _ yE A C row h2 ar a6,aX _ _ yE A C row h3 ar a6⟩)
  ?_ ⟨(hI 0).new ((hI 0).new h0 _) _,bjp,bjo⟩).mono ?_
 ·rintro k X args a7 a0 ⟨ae,be,c1⟩
  refine⟨fn,_,assign,body,run_yield (P:=P) (args:=args) be (ab k args X a0),roundIn_of_wpIn a1 (a2 _ k args X _ a7 ae a0 ?_)⟩;intro ak bak bbl U bld bkm;refine Z3M ?_;intro qy bl4 ao;refine⟨_,run_beginRound qy rfl,?_⟩
  let o7:=bak.putObj (w.heap.size+1) (.loop {la .ready none with state:=.busy})
  refine Z2Q ?_;intro yb iM;refine Z4k ?_;intro fin;rintro e a3 kc hp;cases e with
  | normal=>
   obtain⟨ib,G,H⟩:=hp;obtain⟨a6,l3,J,M⟩:=fin none kc ib;exact⟨_,_,a6,.inl ⟨rfl,⟨(hI _).put H yE l3 rfl _,J,M⟩,D U (D (D (F _ _ _ _ yE yE qy rfl) G) (F _ _ _ _ yE yE l3 rfl))⟩⟩
  | ret=>
   obtain⟨ib,G,H⟩:=hp;obtain⟨a6,l3,J,M⟩:=fin (some .ret) kc ib;exact⟨_,_,a6,.inr ⟨rfl,⟨.ret,(w4 _).put H yE l3 rfl _,J,M⟩,D U (D (D (F _ _ _ _ yE yE qy rfl) G) (F _ _ _ _ yE yE l3 rfl))⟩⟩
  | exit id=>
   obtain⟨ib,G,H⟩:=hp;obtain⟨a6,l3,J,M⟩:=fin (some (.exit id)) kc ib;exact⟨_,_,a6,.inr ⟨rfl,⟨.exit id,(w4 _).put H yE l3 rfl _,J,M⟩,D U (D (D (F _ _ _ _ yE yE qy rfl) G) (F _ _ _ _ yE yE l3 rfl))⟩⟩
  | goto t=>
   obtain⟨ib,G,H⟩:=hp;obtain⟨a6,l3,J,M⟩:=fin (some (.goto t)) kc ib;exact⟨_,_,a6,.inr ⟨rfl,⟨.goto t,(w4 _).put H yE l3 rfl _,J,M⟩,D U (D (D (F _ _ _ _ yE yE qy rfl) G) (F _ _ _ _ yE yE l3 rfl))⟩⟩
  | panic ac=>exact hp.elim
  | outgrown=>exact hp.elim
 exact Z2M
def marks (Ds:List Nat):List Deferred:=Ds.map fun D=>{target:=.collected D,args:=#[]}
theorem Fy {n:Nat} {fn:Func} {tmps:Array Value} {R:Ending->World->Prop} {B:Nat} {Z:World->Prop} (U:At B Z) (J:∀W,Z W->∃v,(results fn tmps).run P W=.ok v W/\R (.returned v) W):
  ∀(Ds:List Nat) (W:zN),Ds.Nodup->(∀D∈Ds,B<=D/\W.heap[D]? =some (.deferred (some [])))->Z W->LeavesInM Fence.wide n P fn tmps R (marks Ds) .returning W:=by
 intro Ds
 induction Ds with
 | nil=>
  intro W _ _ h;obtain⟨v,h1,h2⟩:=J W h;exact⟨v,h1,h2⟩
 | cons D Ds M=>
  intro W G F h;obtain⟨T,H⟩:=F D yF;refine⟨yF,.inl ⟨D,_,rfl,run_takeDeferred H,M _ (Zfe.1 G).2 (fun E A=>?_) (U.put h T H rfl _)⟩⟩;have O:E≠D:=fun e=>(Zfe.1 G).1 (e▸A)
  exact⟨(F E (by simp[A])).1,(Zhj O).trans (F E (by simp[A])).2⟩
end
end Go.Proofs.YtafmoofknjncpaaGreatDoor
namespace Go.Proofs.YtafmoofknjncpaaGreatDoor
open Go.RowKit
theorem Aa {n:Nat} {w w':zN} {b o:Nat} {cs:zP} (h:w.rangeAt b o cs) (g:Below n w w') (U:b<n):w'.rangeAt b o cs:=fun j v A=>
 (Zaw (a:=⟨b,o+j,none⟩) (g.block b U)).trans (h j v A)
theorem Ag {w w':zN} {b o:Nat} {cs:zP} (h:w.rangeAt b o cs) (g:w'.heap[b]? =w.heap[b]?):w'.rangeAt b o cs:=fun j v A=>
 (Zaw (a:=⟨b,o+j,none⟩) g).trans (h j v A)
theorem Rb {w:zN} {b o:Nat} {v:Value} (h:w.cell? ⟨b,o,none⟩=some v):∃A,w.heap[b]? =some A/\A.isCells=true:=by
 cases U:w.heap[b]? with
 | none=>simp[World.cell?,U]at h
 | some A=>cases A<;>first | exact⟨_,rfl,rfl⟩ | simp[World.cell?,U]at h
theorem Jw {w:zN} {b o:Nat} {v:Value} (h:w.cell? ⟨b,o,none⟩=some v):b<w:=by
 obtain⟨A,h1,_⟩:=Rb h;exact(Zbx.1 h1).1
theorem Rc {n B A:Nat} {w w':zN} {b o:Nat} {v:Value} (h:w.cell? ⟨b,o,none⟩=some v) (g:Cg n B A w w') (U:b<n\/B<=b):w'.cell? ⟨b,o,none⟩=some v:=by
 obtain⟨D,h1,h2⟩:=Rb h;exact(Zaw (a:=⟨b,o,none⟩) ((g.same b D (by rw[h2];simpa using U) h1).trans h1.symm)).trans h
theorem Ni {n B D:Nat} {w w':zN} {b o:Nat} {cs:zP} (h:w.rangeAt b o cs) (g:Cg n B D w w') (U:b<n\/B<=b):w'.rangeAt b o cs:=fun j v A=>
 Rc (h j v A) g U
theorem I3 {B b o:Nat} {v:Value}:At B fun w=>w.cell? ⟨b,o,none⟩=some v:=fun A C row h F D=>by
 obtain⟨H,h1,h2⟩:=Rb h;refine(Zaw (a:=⟨b,o,none⟩) (F.block b (Zbx.1 h1).1 fun e=>?_)).trans h;obtain⟨_,p,hp,G⟩:=D b e.symm;rw[h1]at hp;cases hp;rw[G]at h2;cases h2
theorem Dg {B b o:Nat} {cs:zP}:At B fun w=>w.rangeAt b o cs:=fun A C row h G D j v F=>I3 A C row (h j v F) G D
theorem Bm {w:zN} {b o:Nat} {cs:zP} (h:w.rangeAt b o cs) (hp:0<cs.length):b<w:=by
 obtain⟨A,h1,_⟩:=Rb (h 0 _ (Zam hp));exact(Zbx.1 h1).1
theorem Ae (w:zN) (cs:zP) (t:TypeId):(w.alloc (.cells cs.toArray t)).rangeAt w 0 cs:=fun j v A=>by
 have h:(w.alloc (.cells cs.toArray t)).heap[w.heap.size]? =some (.cells cs.toArray t):=Zhe w _;simp only[World.cell?,h,Zac];simpa using A
theorem Bn {a b c:zN} {row:Option Nat} (h:a.grownBy b row) (k:b.grownBy c row):a.grownBy c row:=
 ⟨k.os.trans h.os,k.tape.trans h.tape,k.output.trans h.output,Zag h.size k.size,fun i D A=>(k.block i (Zal D h.size) A).trans (h.block i D A)⟩
theorem Ju (w:zN) (row:Option Nat):w.grownBy w row:=⟨rfl,rfl,rfl,Zab _,fun _ _ _=>rfl⟩
theorem As (w:zN) (a i:Nat) (v:Value):w.grownBy (w.setCell ⟨a,i,none⟩ v) (some a):=
 ⟨rfl,rfl,rfl,by simp[World.setCell],fun k _ A=>Below.heap_setCell _ _ _ _ (fun e=>A (by simp[e]))⟩
theorem Ck {w w':zN} {m:Nat} (row:Option Nat) (h:Below m w w') (hm:w<=m):w.grownBy w' row:=⟨h.os,h.tape,h.output,h.size,fun k A _=>h.block k (Zal A hm)⟩
theorem Ao (w:zN) (a:Nat):∀(vs:zP) (o:Nat),w.grownBy (w.setCells a o vs) (some a)
 | [],_=>Ju _ _
 | v::r,o=>Bn (As w a o v) (Ao _ a r (o+1))
inductive Tree (L:Type) where
 | node (l:L) (s:List (Tree L))
namespace Tree
variable {L:Type}
def Ak:Tree L->L
 | node l _=>l
def Cb:Tree L->List (Tree L)
 | node _ s=>s
mutual
def size:Tree L->Nat
 | node _ s=>1+Bf s
def Bf:List (Tree L)->Nat
 | []=>0
 | x::xs=>size x+Bf xs
end
mutual
def pre:Tree L->List (Tree L)
 | node l s=>node l s::Dw s
def Dw:List (Tree L)->List (Tree L)
 | []=>[]
 | x::xs=>pre x++Dw xs
end
theorem size_pos:∀t:Tree L,0<t.size
 | node _ _=>by simp only[size];omega
theorem ind {P:Tree L->Prop} (h:∀l s,(∀x∈s,P x)->P (node l s)) (t:Tree L):P t:=
 Tree.rec (motive_1:=P) (motive_2:=fun s=>∀x∈s,P x) (fun l s D=>h l s D) (fun _ A=>by cases A)
  (fun x xs A F y hy=>(List.mem_cons.1 hy).elim (fun e=>e▸A) (F _)) t
mutual
theorem Dx:∀t:Tree L,t.pre.length=t.size
 | node l s=>by simp only[pre,size,Zao,Pq s];omega
theorem Pq:∀s:List (Tree L),(Dw s).length=Bf s
 | []=>rfl
 | x::xs=>by simp only[Dw,Bf,Zbj,Dx x,Pq xs]
end
theorem Ts (a b:List (Tree L)):Dw (a++b)=Dw a++Dw b:=by
 induction a with
 | nil=>rfl
 | cons x xs A=>simp only[Zas,Dw,A,Zdj]
theorem En (a b:List (Tree L)):Bf (a++b)=Bf a+Bf b:=by
 induction a with
 | nil=>simp[Bf]
 | cons x xs A=>simp only[Zas,Bf,A];omega
theorem Rg (s:List (Tree L)) (i:Nat):Bf (s.take i)<=Bf s:=by
 have h:=En (s.take i) (s.drop i);rw[Zfo]at h;omega
theorem D2:∀(s:List (Tree L)) (x:Tree L),x∈s->size x<=Bf s
 | a::xs,x,h=>by
  simp only[Bf];rcases List.mem_cons.1 h with rfl | h
  ·omega
  ·have:=D2 xs x h;omega
theorem Co:∀s:List (Tree L),s.length<=Bf s
 | []=>Zab _
 | x::xs=>by have:=Co xs;have:=size_pos x;simp only[Zao,Bf];omega
section
variable (E:L->List Value) (K:Nat) (w:zN) (S:zT)
mutual
def A6:Tree L->List Value->Prop
 | node l s,cs=>∃a c,cs=E l++[.slice a s c]/\s.length<=c/\(s=[]\/∃b o,a=some ⟨b,o,none⟩/\S b/\Xv b o s)
def Xv (b:Nat):Nat->List (Tree L)->Prop
 | _,[]=>True
 | o,x::xs=>(∃cs,w.rangeAt b o cs/\A6 x cs)/\Xv b (o+K) xs
end
end
abbrev In (E:L->List Value) (K:Nat) (w:zN) (n:Nat) (t:Tree L) (cs:zP):Prop:=A6 E K w (fun b=>b<n) t cs
variable {E:L->List Value} {K:Nat} {w w':zN} {n:Nat} {S S':zT}
theorem Ol {b:Nat}:∀(s:List (Tree L)) (o:Nat),Xv E K w S b o s↔∀i (h:i<s.length),∃cs,w.rangeAt b (o+i*K) cs/\A6 E K w S s[i] cs
 | [],o=>by simp[Xv]
 | x::xs,o=>by
  simp only[Xv,Ol xs (o+K)];constructor
  ·rintro⟨h0,h⟩ i ae
   cases i with
   | zero=>simpa using h0
   | succ i=>obtain⟨cs,h1,h2⟩:=h i xE;exact⟨cs,by rw[show o+(i+1)*K=o+K+i*K by rw[Nat.add_mul];omega];exact h1,by simpa using h2⟩
  ·intro h
   refine⟨by have:=h 0 yF;simp only[Zgl,Zaf,Zek]at this;exact this,fun i ae=>?_⟩;obtain⟨cs,h1,h2⟩:=h (i+1) xE;exact⟨cs,by rw[show o+K+i*K=o+(i+1)*K by rw[Zfy];omega];exact h1,by simpa using h2⟩
theorem A6.move (D:∀b o cs,S b->w.rangeAt b o cs->w'.rangeAt b o cs) (hm:∀b,S b->S' b):∀(t:Tree L) (cs:zP),A6 E K w S t cs->A6 E K w' S' t cs:=by
 refine ind fun l s G cs h=>?_
 obtain⟨a,c,h1,h2,h3⟩:=(by simpa only[A6]using h:∃a c,cs=E l++[.slice a s c]/\s.length<=c/\(s=[]\/∃b o,a=some ⟨b,o,none⟩/\S b/\Xv E K w S b o s));simp only[A6];refine⟨a,c,h1,h2,h3.imp id ?_⟩;rintro⟨b,o,rfl,U,A⟩;refine⟨b,o,rfl,hm _ U,?_⟩;rw[Ol]at A|-;intro i F;obtain⟨H,g1,g2⟩:=A i F;exact⟨H,D _ _ _ U g1,G _ (Zat _) _ g2⟩
theorem In.move {m:Nat} (A:∀b o cs,b<n->w.rangeAt b o cs->w'.rangeAt b o cs) (hm:n<=m) (t:Tree L) (cs:zP) (h:In E K w n t cs):In E K w' m t cs:=A6.move A (fun b U=>Zal U hm) t cs h
theorem A6.block {t:Tree L} {cs:zP} (h:A6 E K w S t cs) (A:∀b,S b->w'.heap[b]? =w.heap[b]?):A6 E K w' S t cs:=A6.move (fun _ _ _ U h=>Ag h (A _ U)) (fun _ h=>h) t cs h
theorem A6.mono {t:Tree L} {cs:zP} (h:A6 E K w S t cs) (hm:∀b,S b->S' b):A6 E K w S' t cs:=A6.move (fun _ _ _ _ h=>h) hm t cs h
theorem A6.below {m:Nat} {t:Tree L} {cs:zP} (h:A6 E K w S t cs) (g:Below m w w') (A:∀b,S b->b<m):A6 E K w' S t cs:=h.block fun b U=>g.block b (A b U)
theorem A6.B8 {t:Tree L} {cs:zP} {B:Nat}:At B fun w=>A6 E K w S t cs:=fun A C row h F D=>
 A6.move (fun b o H _ G=>Dg A C row G F D) (fun _ h=>h) t cs h
theorem In.below {t:Tree L} {cs:zP} (h:In E K w n t cs) (g:Below n w w'):In E K w' n t cs:=In.move (fun _ _ _ U A=>Aa A g U) (Zab _) t cs h
theorem In.mono {m:Nat} {t:Tree L} {cs:zP} (h:In E K w n t cs) (g:n<=m):In E K w m t cs:=In.move (fun _ _ _ _ A=>A) g t cs h
theorem In.Mp {B D:Nat} {t:Tree L} {cs:zP} (h:In E K w n t cs) (g:Cg n B D w w'):In E K w' n t cs:=In.move (fun _ _ _ U A=>Ni A g (.inl U)) (Zab _) t cs h
theorem In.drewN {t:Tree L} {cs:zP} (h:In E K w n t cs) (k:Nat):In E K (w.drewN k) n t cs:=In.move (fun _ _ _ _ A=>Ag A yN) (Zab _) t cs h
theorem In.B8 {t:Tree L} {cs:zP} {B:Nat}:At B fun w=>In E K w n t cs:=A6.B8
theorem A6.open {l:L} {s:List (Tree L)} {cs:zP} (h:A6 E K w S (node l s) cs):
  ∃a c,cs=E l++[.slice a s c]/\s.length<=c/\(s=[]\/∃b o,a=some ⟨b,o,none⟩/\S b/\∀i (h:i<s.length),∃cs,w.rangeAt b (o+i*K) cs/\A6 E K w S s[i] cs):=by
 simp only[A6]at h
 obtain⟨a,c,h1,h2,h3⟩:=h
 exact⟨a,c,h1,h2,h3.imp id fun⟨b,o,e,U,A⟩=>⟨b,o,e,U,(Ol s o).1 A⟩⟩
theorem A6.shut {l:L} {s:List (Tree L)} {a:zO} {c:Nat} (h2:s<=c) (h3:s=[]\/∃b o,a=some ⟨b,o,none⟩/\S b/\∀i (h:i<s.length),∃cs,w.rangeAt b (o+i*K) cs/\A6 E K w S s[i] cs):
  A6 E K w S (node l s) (E l++[.slice a s c]):=by
 simp only[A6]
 exact⟨a,c,rfl,h2,h3.imp id fun⟨b,o,e,U,A⟩=>⟨b,o,e,U,(Ol s o).2 A⟩⟩
theorem In.open {l:L} {s:List (Tree L)} {cs:zP} (h:In E K w n (node l s) cs):
  ∃a c,cs=E l++[.slice a s c]/\s.length<=c/\(s=[]\/∃b o,a=some ⟨b,o,none⟩/\b<n/\∀i (h:i<s.length),∃cs,w.rangeAt b (o+i*K) cs/\In E K w n s[i] cs):=A6.open h
theorem In.shut {l:L} {s:List (Tree L)} {a:zO} {c:Nat} (h2:s<=c) (h3:s=[]\/∃b o,a=some ⟨b,o,none⟩/\b<n/\∀i (h:i<s.length),∃cs,w.rangeAt b (o+i*K) cs/\In E K w n s[i] cs):
  In E K w n (node l s) (E l++[.slice a s c]):=A6.shut h2 h3
end Tree
structure Cc where
 kind:UInt8
 s0:UInt64
 s1:UInt64
 s2:UInt64
 s3:UInt64
 mn:Int
 mx:Int
abbrev Rx:=Tree Cc
def Cc.cells (l:Cc):List Value:=[.int .u8 l.kind.toNat,.int .u64 l.s0.toNat,.int .u64 l.s1.toNat,.int .u64 l.s2.toNat,.int .u64 l.s3.toNat,.int .i64 l.mn,.int .i64 l.mx]
abbrev Bo (w:zN) (n:Nat) (t:Rx) (cs:zP):Prop:=Tree.In Cc.cells 8 w n t cs
structure Df where
 kind:UInt8
 num:Nat
 name:ByteArray
 cap:Int
abbrev Ex:=Tree Df
def Df.cells (l:Df):List Value:=[.int .u8 l.kind.toNat,.float .f64 l.num,.string l.name,.int .i64 l.cap]
abbrev Ch (w:zN) (n:Nat) (t:Ex) (cs:zP):Prop:=Tree.In Df.cells 5 w n t cs
end Go.Proofs.YtafmoofknjncpaaGreatDoor
namespace Go.Proofs.YtafmoofknjncpaaGreatDoor
section
open Tryz
abbrev Tree.Cx (t:Rx):UInt8:=t.Ak.kind
def Cc.blank (l:Cc):Prop:=l.s0=0/\l.s1=0/\l.s2=0/\l.s3=0
def Cc.plain (l:Cc):Prop:=l.mn=0/\l.mx=0
def Fc (least Cj:Int):Prop:=0<=least/\least<=16/\¬(least=1/\Cj=1)/\(Cj= -1\/1<=Cj/\Cj<=16/\least<=Cj)
inductive Iy:Cc->List Rx->Prop
 | empty (l:Cc):l.kind=1->l.blank->l.plain->Iy l []
 | cls (l:Cc):l.kind=2->¬l.blank->l.plain->Iy l []
 | cat (l:Cc) (s:List Rx):l.kind=3->l.blank->l.plain->2<=s.length->(∀x∈s,x.Cx≠1/\x.Cx≠3)->Iy l s
 | alt (l:Cc) (s:List Rx):l.kind=4->l.blank->l.plain->2<=s.length->(∀x∈s,x.Cx≠4)->Iy l s
 | My (l:Cc) (x:Rx):l.kind=5->l.blank->Fc l.mn l.mx->x.Cx≠1->Iy l [x]
 | group (l:Cc) (x:Rx):l.kind=6->l.blank->l.plain->Iy l [x]
def Cd (t:Rx):Prop:=∀x∈t.pre,Iy x.Ak x.Cb
theorem Ul (t:Rx):t∈t.pre:=by cases t;simp[Tree.pre]
theorem Uo {x:Rx} {s:List Rx}:x∈Tree.Dw s↔∃y∈s,x∈y.pre:=by
 induction s with
 | nil=>simp[Tree.Dw]
 | cons a s A=>simp[Tree.Dw,A]
theorem Cd.node {l:Cc} {s:List Rx}:Cd (.node l s)↔Iy l s/\∀x∈s,Cd x:=by
 constructor
 ·intro h
  refine⟨h _ (Ul _),fun x A y hy=>h y ?_⟩;simp only[Tree.pre,Zbc];exact .inr (Uo.2 ⟨x,A,hy⟩)
 rintro⟨h1,h2⟩ y hy;simp only[Tree.pre,Zbc]at hy;rcases hy with rfl | hy
 ·exact h1
 obtain⟨x,A,hy⟩:=Uo.1 hy;exact h2 x A y hy
theorem Cd.Al0 {t:Rx} (h:Cd t):t.Cx≠0:=by
 have:=h t (Ul t);cases t with
 | node l s=>
  simp only[Tree.Ak,Tree.Cb]at this;cases this<;>simp_all[Tree.Cx,Tree.Ak]
def J6 (l:Cc):Nat:=if l.mx= -1 then max l.mn.toNat 1 else max l.mn.toNat l.mx.toNat
mutual
def Tree.Da:Tree Cc->Nat
 | .node l s=>min ((if l.kind=5 then min (J6 l) 10001 else 1)*((if l.kind=2 then 1 else 0)+Tree.Cm s)) 10001
def Tree.Cm:List (Tree Cc)->Nat
 | []=>0
 | x::xs=>Tree.Da x+Tree.Cm xs
end
theorem Hj (a b:List Rx):Tree.Cm (a++b)=Tree.Cm a+Tree.Cm b:=by
 induction a with
 | nil=>simp[Tree.Cm]
 | cons x xs A=>simp only[Zas,Tree.Cm,A];omega
def Tree.B3 (t:Rx):Nat:=(t.pre.filter fun x=>x.Cx==6).length
def Be (s:List Rx):Nat:=((Tree.Dw s).filter fun x=>x.Cx==6).length
theorem E0 (l:Cc) (s:List Rx):Tree.B3 (.node l s)=(if l.kind=6 then 1 else 0)+Be s:=by
 simp only[Tree.B3,Tree.pre,Zdu,Tree.Cx,Tree.Ak,Be];by_cases h:l.kind=6<;>simp[h]
 omega
theorem C6 (x:Rx) (s:List Rx):Be (x::s)=x.B3+Be s:=by
 simp[Be,Tree.Dw,Tree.B3]
theorem Ev (a b:List Rx):Be (a++b)=Be a+Be b:=by
 simp[Be,Tree.Ts]
structure F3 (t:Rx):Prop where
 clean:Cd t
 size:t.size<=120
 pos:t.Da<=400
 groups:t.B3<=9
end
section
open Tryz Go.RowKit
def Cp {α β:Type} (I:World->(Nat->Prop)->α->β->Prop):Prop:=
 ∀(w w':zN) (S S':zT) (x:α) (c:β),(∀b o A,S b->w.rangeAt b o A->w'.rangeAt b o A)->(∀b,S b->S' b)->I w S x c->I w' S' x c
section
variable {α β:Type} {I:World->(Nat->Prop)->α->β->Prop} {w w':zN} {n m:Nat} {S S':zT} {x:α} {c:β}
theorem Cp.below (hI:Cp I) (h:I w (fun b=>b<n) x c) (g:Below n w w'):I w' (fun b=>b<n) x c:=hI _ _ _ _ _ _ (fun _ _ _ U A=>Aa A g U) (fun _ h=>h) h
theorem Cp.mono (hI:Cp I) (h:I w (fun b=>b<n) x c) (g:n<=m):I w (fun b=>b<m) x c:=hI _ _ _ _ _ _ (fun _ _ _ _ A=>A) (fun _ h=>Zal h g) h
theorem Cp.drewN (hI:Cp I) (h:I w S x c) (k:Nat):I (w.drewN k) S x c:=hI _ _ _ _ _ _ (fun _ _ _ _ A=>Ag A yN) (fun _ h=>h) h
theorem Cp.B8 {B:Nat} (hI:Cp I):At B fun w=>I w S x c:=fun A C row h F D=>hI _ _ _ _ _ _ (fun b o H _ G=>Dg A C row G F D) (fun _ h=>h) h
theorem Cp.wide (hI:Cp I) (h:I w S x c) (g:∀b,S b->S' b):I w S' x c:=hI _ _ _ _ _ _ (fun _ _ _ _ A=>A) g h
theorem Cp.block (hI:Cp I) (h:I w S x c) (g:∀b,S b->w'.heap[b]? =w.heap[b]?):I w' S x c:=hI _ _ _ _ _ _ (fun _ _ _ U A=>Ag A (g _ U)) (fun _ h=>h) h
end
def Al {α:Type} (I:World->(Nat->Prop)->α->List Value->Prop) (K:Nat) (w:zN) (S:zT) (l:List α) (v:Value):Prop:=
 ∃a c,v=.slice a l c/\l.length<=c/\(l=[]\/∃b o,a=some ⟨b,o,none⟩/\S b/\∀i (h:i<l.length),∃cs,w.rangeAt b (o+i*K) cs/\I w S l[i] cs)
theorem Al.Ab {α:Type} {I:World->(Nat->Prop)->α->List Value->Prop} {K:Nat} (hI:Cp I):Cp (Al I K):=by
 rintro w w' S S' l v A hm ⟨a,c,rfl,F,h⟩;refine⟨a,c,rfl,F,h.imp id ?_⟩;rintro⟨b,o,rfl,U,h⟩;refine⟨b,o,rfl,hm _ U,fun i D=>?_⟩;obtain⟨cs,h1,h2⟩:=h i D;exact⟨cs,A _ _ _ U h1,hI _ _ _ _ _ _ A hm h2⟩
abbrev Cz (w:zN) (S:zT) (t:Ex) (cs:zP):Prop:=Tree.A6 Df.cells 5 w S t cs
abbrev B2 (w:zN) (S:zT) (t:Rx) (cs:zP):Prop:=Tree.A6 Cc.cells 8 w S t cs
theorem Cz.Ab:Cp Cz:=fun _ _ _ _ t cs A hm h=>Tree.A6.move A hm t cs h
theorem B2.Ab:Cp B2:=fun _ _ _ _ t cs A hm h=>Tree.A6.move A hm t cs h
structure Dl where
 kind:UInt8
 text:ByteArray
 group:Int
 Bw:Ex
def Bz (w:zN) (S:zT) (p:Dl) (cs:zP):Prop:=∃es,cs=[.int .u8 p.kind.toNat,.string p.text,.int .i64 p.group]++es/\Cz w S p.Bw es
theorem Bz.Ab:Cp Bz:=by
 rintro w w' S S' p cs A hm ⟨es,rfl,h⟩;exact⟨es,rfl,Cz.Ab _ _ _ _ _ _ A hm h⟩
structure Dv where
 kind:UInt8
 name:ByteArray
 Ay:List Dl
 Bw:Ex
def C2 (w:zN) (S:zT) (p:Dv) (cs:zP):Prop:=∃v es,cs=[.int .u8 p.kind.toNat,.string p.name,v]++es/\Al Bz 8 w S p.Ay v/\Cz w S p.Bw es
theorem C2.Ab:Cp C2:=by
 rintro w w' S S' p cs A hm ⟨v,es,rfl,h,k⟩;exact⟨v,es,rfl,Al.Ab Bz.Ab _ _ _ _ _ _ A hm h,Cz.Ab _ _ _ _ _ _ A hm k⟩
structure A7 where
 kind:UInt8
 Bh:Bool
 Bp:Bool
 Bu:Rx
 text:ByteArray
 Az:Int
 Aw:List Dv
 A3:ByteArray
 Bl:Int
def Bj (w:zN) (S:zT) (p:A7) (cs:zP):Prop:=
 ∃A v,cs=[.int .u8 p.kind.toNat,.bool p.Bh,.bool p.Bp]++A++[.string p.text,.int .i64 p.Az,v,.string p.A3,.int .i64 p.Bl]/\B2 w S p.Bu A/\Al C2 8 w S p.Aw v
theorem Bj.Ab:Cp Bj:=by
 rintro w w' S S' p cs A hm ⟨D,v,rfl,h,k⟩;exact⟨D,v,rfl,B2.Ab _ _ _ _ _ _ A hm h,Al.Ab C2.Ab _ _ _ _ _ _ A hm k⟩
structure Bc where
 name:ByteArray
 Ai:List A7
def Cf (w:zN) (S:zT) (p:Bc) (cs:zP):Prop:=∃v,cs=[.string p.name,v]/\Al Bj 16 w S p.Ai v
theorem Cf.Ab:Cp Cf:=by
 rintro w w' S S' p cs A hm ⟨v,rfl,h⟩;exact⟨v,rfl,Al.Ab Bj.Ab _ _ _ _ _ _ A hm h⟩
structure Et where
 name:ByteArray
 number:Bool
 text:ByteArray
 float:Nat
def Dy (_w:zN) (_S:zT) (p:Et) (cs:zP):Prop:=cs=[.string p.name,.bool p.number,.string p.text,.float .f64 p.float]
theorem Dy.Ab:Cp Dy:=fun _ _ _ _ _ _ _ _ h=>h
abbrev L0 (w:zN) (n:Nat):=Bz w fun b=>b<n
abbrev Aht (w:zN) (n:Nat):=C2 w fun b=>b<n
abbrev Fo (w:zN) (n:Nat):=Bj w fun b=>b<n
abbrev Aoi (w:zN) (n:Nat):=Cf w fun b=>b<n
abbrev Aco {α:Type} (I:World->(Nat->Prop)->α->List Value->Prop) (K:Nat) (w:zN) (n:Nat):=Al I K w fun b=>b<n
structure Ap where
 Aj:Int
 An:List Et
 Ac:List Bc
def A0 (w:zN) (S:zT) (p:Ap) (cs:zP):Prop:=
 ∃v u,cs=[.int .i64 p.Aj,v,u]/\Al Dy 4 w S p.An v/\Al Cf 2 w S p.Ac u
theorem A0.Ab:Cp A0:=by
 rintro w w' S S' p cs A hm ⟨v,u,rfl,h,k⟩;exact⟨v,u,rfl,Al.Ab Dy.Ab _ _ _ _ _ _ A hm h,Al.Ab Cf.Ab _ _ _ _ _ _ A hm k⟩
abbrev Br (w:zN) (n:Nat):=A0 w fun b=>b<n
def Dv.size (a:Dv):Nat:=1+a.Bw.size+a.Ay.length+(a.Ay.map fun p=>p.Bw.size).sum
def A7.size (r:A7):Nat:=1+r.Bu.size+(r.Aw.map Dv.size).sum
def Bc.size (s:Bc):Nat:=(s.Ai.map A7.size).sum
def Ap.size (s:Ap):Nat:=s.An.length+s.Ac.length+(s.Ac.map Bc.size).sum
end
section
open Tryz Ieee
end
section
open Tryz Ieee
theorem T6:double.signWeight=9223372036854775808:=yH
theorem Zr:double.binade=4503599627370496:=yH
theorem Q9:double.infRung=9218868437227405312:=yH
end
section
open Tryz Ieee
end
section
open Tryz Ieee
end
section
open Tryz Ieee
def Gq (x:Nat):Bool:=decide (9218868437227405312<x%9223372036854775808)
theorem Ab1 (a:Int):compare a a=.eq:=by
 show compareOfLessAndEq a a=_;unfold compareOfLessAndEq;rw[if_neg yE,if_pos rfl]
theorem Vm (x:Nat):double.order x x=if Gq x then none else some .eq:=by
 unfold Format.order Gq;generalize A:double.read x=d;unfold Format.read at A;simp only[T6,Zr,Q9]at A;by_cases h:9218868437227405312<x%9223372036854775808
 ·rw[if_neg yE,if_neg yE,if_neg yE]at A
  rw[Zht h,<-A];rfl
 rw[Zhs h];split at A
 ·rw[<-A];exact Zhr some (Ab1 _)
 split at A
 ·rw[<-A];exact Zhr some (Ab1 _)
 rw[if_pos yE]at A;rw[<-A];show some (compare (Bool.toNat _) _)=_;cases(x / 9223372036854775808%2==1)<;>rfl
theorem Anj (x:Nat):(double.order x x != some .eq)=Gq x:=by
 rw[Vm];cases Gq x<;>rfl
theorem Ank (x:Nat):(double.order x x==some .eq)= !Gq x:=by
 rw[Vm];cases Gq x<;>rfl
end
section
open Tryz Ieee
theorem Anb (neg:Bool) (r:Nat):double.word neg r=if neg then 9223372036854775808+r else r:=by
 unfold Format.word;rw[T6]
theorem Ahu (neg:Bool) (r:Nat) (h:r<9223372036854775808):double.word neg r%9223372036854775808=r:=by
 rw[Anb];split<;>omega
theorem Ua (neg:Bool) (r:Nat) (h:r<=9218868437227405312):Gq (double.word neg r)=false:=by
 unfold Gq;rw[Ahu _ _ yE];exact Zhs yE
end
section
open Tryz Go.RowKit
def Fq (k:UInt8):Cc:=⟨k,0,0,0,0,0,0⟩
theorem Ki (k:UInt8):(Fq k).blank:=⟨rfl,rfl,rfl,rfl⟩
theorem Kh (k:UInt8):(Fq k).plain:=⟨rfl,rfl⟩
def D3 (k:UInt8) (x:Rx):List Rx:=if x.Cx=k then x.Cb else if k=3/\x.Cx=1 then []else [x]
def Ik (k:UInt8):List Rx->Rx
 | []=>.node (Fq 1) []
 | [x]=>x
 | x::y::r=>.node (Fq k) (x::y::r)
def F9 (k:UInt8) (a b:Rx):Rx:=Ik k (D3 k a++D3 k b)
theorem Vl {k:UInt8} (A:k=3\/k=4) {x:Rx} (h:Cd x):∀y∈D3 k x,Cd y/\y.Cx≠k/\(k=3->y.Cx≠1):=by
 obtain⟨l,s⟩:=x;have D:=h;rw[Cd.node]at h;unfold D3;split
 ·rename_i e
  intro y hy;simp only[Tree.Cb]at hy;refine⟨h.2 y hy,?_⟩;simp only[Tree.Cx,Tree.Ak]at e;rcases A with rfl | rfl
  ·cases h.1 with
   | cat _ _ _ _ _ f=>exact⟨(f y hy).2,fun _=>(f y hy).1⟩
   | _=>simp_all
  cases h.1 with
  | alt _ _ _ _ _ f=>exact⟨f y hy,fun h=>absurd h yH⟩
  | _=>simp_all
 rename_i e
 split
 ·intro y hy;cases hy
 rename_i F
 intro y hy;simp only[Zbf]at hy;subst hy;exact⟨D,e,fun A h1=>F ⟨A,h1⟩⟩
theorem Adz {k:UInt8} (D:k=3\/k=4) (l:List Rx) (h:∀y∈l,Cd y/\y.Cx≠k/\(k=3->y.Cx≠1)):Cd (Ik k l):=by
 match l,h with
 | [],_=>exact Cd.node.2 ⟨.empty _ rfl (Ki 1) (Kh 1),yF⟩
 | [x],h=>exact(h x yF).1
 | x::y::r,h=>
  refine Cd.node.2 ⟨?_,fun z A=>(h z A).1⟩;rcases D with rfl | rfl
  ·exact .cat _ _ rfl (Ki 3) (Kh 3) yF (fun z A=>⟨(h z A).2.2 rfl,(h z A).2.1⟩)
  exact .alt _ _ rfl (Ki 4) (Kh 4) yF (fun z A=>(h z A).2.1)
theorem T2 {k:UInt8} (A:k=3\/k=4) {a b:Rx} (D:Cd a) (U:Cd b):Cd (F9 k a b):=
 Adz A _ fun y hy=>(Zew.1 hy).elim (Vl A D y) (Vl A U y)
theorem Lh (k:UInt8) (x:Rx):Tree.Bf (D3 k x)+(if x.Cx=k then 1 else 0)<=x.size:=by
 obtain⟨l,s⟩:=x;unfold D3;split
 ·rename_i e;simp only[Tree.Cb,Tree.size,e,Zia];omega
 split<;>simp[Tree.Bf]
theorem V2 (k:UInt8) (l:List Rx):(Ik k l).size<=1+Tree.Bf l:=by
 match l with
 | []=>simp[Ik,Tree.size,Tree.Bf]
 | [x]=>simp[Ik,Tree.Bf]
 | x::y::r=>simp[Ik,Tree.size]
theorem V1 (k:UInt8) (a b:Rx):(F9 k a b).size<=1+a.size+b.size:=by
 have h1:=Lh k a;have h2:=Lh k b;have h3:=V2 k (D3 k a++D3 k b);rw[Tree.En]at h3;unfold F9;omega
theorem Xf (k:UInt8) (a b:Rx) (h:a.Cx=k\/b.Cx=k):(F9 k a b).size<=a.size+b.size:=by
 have h1:=Lh k a;have h2:=Lh k b;have h3:=V2 k (D3 k a++D3 k b);rw[Tree.En]at h3;unfold F9;rcases h with e | e<;>rw[if_pos e]at* <;>omega
theorem Lf {l:Cc} {s:List Rx} (h:l.kind≠5) (h2:l.kind≠2):Tree.Da (.node l s)=min (Tree.Cm s) 10001:=by
 simp[Tree.Da,h,h2]
theorem Yi {k:UInt8} (A:k=3\/k=4) (x:Rx) (h:x.Da<=10000):Tree.Cm (D3 k x)<=x.Da:=by
 obtain⟨l,s⟩:=x;unfold D3;split
 ·rename_i e
  simp only[Tree.Cx,Tree.Ak]at e;rw[Lf (by rw[e];rcases A with rfl | rfl<;>decide) (by rw[e];rcases A with rfl | rfl<;>decide)]at h|-;simp only[Tree.Cb];omega
 split<;>simp[Tree.Cm]
theorem Aiy {k:UInt8} (A:k=3\/k=4) (l:List Rx):(Ik k l).Da<=Tree.Cm l:=by
 match l with
 | []=>simp[Ik,Tree.Da,Tree.Cm,Fq]
 | [x]=>simp[Ik,Tree.Cm]
 | x::y::r=>
  simp only[Ik];rw[Lf (by rcases A with rfl | rfl<;>decide) (by rcases A with rfl | rfl<;>decide)];omega
theorem Ys {k:UInt8} (A:k=3\/k=4) (a b:Rx) (D:a.Da<=10000) (U:b.Da<=10000):(F9 k a b).Da<=a.Da+b.Da:=by
 have h1:=Yi A a D;have h2:=Yi A b U;have h3:=Aiy A (D3 k a++D3 k b);rw[Hj]at h3;unfold F9;omega
theorem R5 {k:UInt8} (_hk:k=3\/k=4) (x:Rx):Be (D3 k x)<=x.B3:=by
 obtain⟨l,s⟩:=x;unfold D3;split
 ·rw[E0];simp only[Tree.Cb];omega
 split
 ·simp[Be,Tree.Dw]
 rw[C6];simp[Be,Tree.Dw]
theorem Abh {k:UInt8} (A:k=3\/k=4) (l:List Rx):(Ik k l).B3<=Be l:=by
 match l with
 | []=>simp only[Ik];rw[E0];simp[Fq,Be,Tree.Dw]
 | [x]=>simp only[Ik];rw[C6];omega
 | x::y::r=>
  simp only[Ik];rw[E0,if_neg (by rcases A with rfl | rfl<;>decide)];omega
theorem Sb {k:UInt8} (A:k=3\/k=4) (a b:Rx):(F9 k a b).B3<=a.B3+b.B3:=by
 have h1:=R5 A a;have h2:=R5 A b;have h3:=Abh A (D3 k a++D3 k b);rw[Ev]at h3;unfold F9;omega
structure F2 (p:List Rx) (i u g:Nat):Prop where
 clean:∀x∈p,Cd x
 size:Tree.Bf p<=i
 pos:Tree.Cm p<=u*i
 groups:Be p<=g
 one:1<=u
 Cj:u<=16
 nine:g<=9
 Fm:i<=25
theorem F2.nil:F2 [] 0 1 0:=⟨yF,by simp[Tree.Bf],by simp[Tree.Cm],by simp[Be,Tree.Dw],yH,yH,yH,yH⟩
theorem F2.skip {p:List Rx} {i u g:Nat} (h:F2 p i u g) (A:i<25):F2 p (i+1) u g:=
 ⟨h.clean,by have:=h.size;omega,Zag h.pos (Nat.mul_le_mul_left _ yE),h.groups,h.one,h.Cj,h.nine,yE⟩
theorem Lb {x:Rx} {p:List Rx} (h:x∈p):x.size<=Tree.Bf p:=Tree.D2 p x h
theorem Le {x:Rx}:∀ {p:List Rx},x∈p->x.Da<=Tree.Cm p
 | y::r,h=>by
  simp only[Tree.Cm];rcases List.mem_cons.1 h with rfl | h
  ·omega
  ·have:=Le h;omega
theorem F2.Vh {p:List Rx} {i u g:Nat} (h:F2 p i u g):Tree.Cm p<=400:=
 Zag h.pos (Zag (Nat.mul_le_mul h.Cj h.Fm) yH)
theorem F2.leaf {p:List Rx} {i u g:Nat} (h:F2 p i u g) (F:i<25) {t:Rx} (D:Cd t) (h1:t.size=1) (h2:t.Da<=1) (h3:t.B3=0):F2 (p++[t]) (i+1) u g:=by
 refine⟨fun x A=>?_,?_,?_,?_,h.one,h.Cj,h.nine,yE⟩
 ·rcases Zew.1 A with A | A
  ·exact h.clean x A
  simp at A;rw[A];exact D
 ·have:=h.size;rw[Tree.En];simp[Tree.Bf];omega
 ·have:=h.pos;have:=h.one;rw[Hj,Zge];simp[Tree.Cm];omega
 have:=h.groups;rw[Ev,C6];simp[Be,Tree.Dw]at*;omega
theorem F2.join {p:List Rx} {i u g:Nat} {a b:Rx} (h:F2 (p++[a,b]) i u g) (D:i<25) {k:UInt8} (A:k=3\/k=4):F2 (p++[F9 k a b]) (i+1) u g:=by
 have hp:=h.Vh;have F:=Le (x:=a) (p:=p++[a,b]) yF;have U:=Le (x:=b) (p:=p++[a,b]) yF;have G:=V1 k a b;have H:=Ys A a b yE yE;have J:=Sb A a b;refine⟨fun x a1=>?_,?_,?_,?_,h.one,h.Cj,h.nine,yE⟩
 ·rcases Zew.1 a1 with a1 | a1
  ·exact h.clean x xP
  simp at a1;rw[a1];exact T2 A (h.clean a yF) (h.clean b yF)
 ·have:=h.size;rw[Tree.En]at this|-;simp only[Tree.Bf]at*;omega
 ·have:=h.pos;have:=h.one;rw[Hj]at*;rw[Zge];simp only[Tree.Cm]at*;omega
 have:=h.groups;rw[Ev]at*;simp only[C6]at*;omega
theorem F2.group {p:List Rx} {i u g:Nat} {a:Rx} (h:F2 (p++[a]) i u g) (D:i<25) (F:g<9):F2 (p++[.node (Fq 6) [a]]) (i+1) u (g+1):=by
 have hp:=h.Vh;have G:=Le (x:=a) (p:=p++[a]) yF;refine⟨fun x a1=>?_,?_,?_,?_,h.one,h.Cj,yE,yE⟩
 ·rcases Zew.1 a1 with a1 | a1
  ·exact h.clean x xP
  simp at a1;rw[a1];exact Cd.node.2 ⟨.group _ _ rfl (Ki 6) (Kh 6),by simpa using h.clean a yF⟩
 ·have:=h.size;rw[Tree.En]at this|-;simp only[Tree.Bf,Tree.size]at*;omega
 ·have:=h.pos;have:=h.one;rw[Hj]at*;rw[Zge]
  have e:Tree.Cm [.node (Fq 6) [a]]=min (a.Da) 10001:=by
   simp only[Tree.Cm];rw[Lf yH yH];simp[Tree.Cm]
  rw[e];simp only[Tree.Cm]at*;omega
 have:=h.groups;rw[Ev]at*
 simp only[C6]at*
 rw[E0,C6,if_pos yI];have A:Be []=0:=rfl;rw[A]at*
 omega
theorem F2.My {p:List Rx} {i u g:Nat} {a:Rx} (h:F2 (p++[a]) i u g) (H:i<25) (A:a.Cx≠1) (mn mx:Int) (U:Fc mn mx) (times:Nat) (D:J6 ⟨5,0,0,0,0,mn,mx⟩=times) (h1:1<=times) (hu:u*times<=16):
  F2 (p++[.node ⟨5,0,0,0,0,mn,mx⟩ [a]]) (i+1) (u*times) g:=by
 have hp:=h.Vh
 have J:=Le (x:=a) (p:=p++[a]) yF
 have G:u<=u*times:=Nat.le_mul_of_pos_right u h1
 refine⟨fun x a1=>?_,?_,?_,?_,Zag h.one G,hu,h.nine,yE⟩
 ·rcases Zew.1 a1 with a1 | a1
  ·exact h.clean x xP
  simp at a1;rw[a1];exact Cd.node.2 ⟨.My _ _ rfl ⟨rfl,rfl,rfl,rfl⟩ U A,by simpa using h.clean a yF⟩
 ·have:=h.size;rw[Tree.En]at this|-;simp only[Tree.Bf,Tree.size]at*;omega
 ·have h4:=h.pos;rw[Hj]at*
  have e:Tree.Cm [.node ⟨5,0,0,0,0,mn,mx⟩ [a]]<=times*a.Da:=by
   simp only[Tree.Cm,Tree.Da,D,Zaf,Zia];refine Zag (Nat.min_le_left _ _) ?_;simp only[show((5:UInt8)=2)=False from yH,Zhz,Zac];exact Nat.mul_le_mul_right _ (Nat.min_le_left _ _)
  simp only[Tree.Cm,Zaf]at*
  have h5:(Tree.Cm p+a.Da)*times<=u*i*times:=Nat.mul_le_mul_right _ h4;have h6:Tree.Cm p<=Tree.Cm p*times:=Nat.le_mul_of_pos_right _ h1;have h7:u*times*(i+1)=u*i*times+u*times:=by rw[Zge,Zba,Nat.mul_right_comm]
  rw[Zfy]at h5;rw[h7];have h8:times*a.Da=a.Da*times:=Nat.mul_comm _ _;omega
 have:=h.groups;rw[Ev]at*
 simp only[C6]at*
 rw[E0,C6,if_neg yF]
 have F:Be []=0:=rfl
 rw[F]at*
 omega
structure Py (t:Rx) (rest:List Rx):Prop where
 clean:Cd t
 each:∀x∈rest,Cd x
 size:t.size+Tree.Bf rest<=25+(if t.Cx=4 then 1 else 0)
 pos:t.Da+Tree.Cm rest<=400
 groups:t.B3+Be rest<=9
theorem F2.end_ {t:Rx} {rest:List Rx} {i u g:Nat} (h:F2 (t::rest) i u g):Py t rest:=by
 have hp:=h.Vh;have h1:=h.size;have h2:=h.groups;have h3:=h.nine;have h4:=h.Fm;simp only[Tree.Bf,Tree.Cm,C6]at*
 exact⟨h.clean t yF,fun x a1=>h.clean x xP,yE,yE,yE⟩
theorem Ag0 (k:UInt8):∀(l:List Rx),2<=l.length->(Ik k l).Cx=k
 | x::y::r,_=>rfl
theorem Vk (x:Rx) (h:Cd x):1<=(D3 4 x).length:=by
 obtain⟨l,s⟩:=x;unfold D3;split
 ·rename_i e
  rw[Cd.node]at h;simp only[Tree.Cx,Tree.Ak]at e;simp only[Tree.Cb];cases h.1 with
  | alt _ _ _ _ _ f=>omega
  | _=>simp_all
 simp
theorem Py.step {t x:Rx} {rest:List Rx} (h:Py t (x::rest)):Py (F9 4 t x) rest:=by
 have D:=h.each x yF;have h1:=h.size;have h2:=h.pos;have h3:=h.groups;simp only[Tree.Bf,Tree.Cm,C6]at h1 h2 h3;have G:=Ys (.inr rfl) t x yE yE;have H:=Sb (.inr rfl) t x;have F:(F9 4 t x).Cx=4:=Ag0 4 _ (by rw[Zbj];have:=Vk t h.clean;have:=Vk x D;omega);refine⟨T2 (.inr rfl) h.clean D,fun y hy=>h.each y (by simp[hy]),?_,yE,yE⟩;rw[if_pos F];by_cases A:t.Cx=4
 ·have:=Xf 4 t x (.inl A)
  rw[if_pos A]at h1;omega
 have:=V1 4 t x;rw[if_neg A]at h1;omega
theorem Py.Xi {t:Rx} (h:Py t []):F3 t/\t.size<=26:=by
 have h1:=h.size;have h2:=h.pos;have h3:=h.groups;simp only[Tree.Bf,Tree.Cm]at h1 h2;have A:Be []=0:=rfl;have h4:(if t.Cx=4 then 1 else 0)<=1:=by split<;>omega
 exact⟨⟨h.clean,yE,yE,yE⟩,yE⟩
end
section
open Tryz Go.RowKit
variable {P:Program}
def Aoj (P:Program) (gf:Nat) (lb:Array Value) (b:Bool) (ok:Array Value->World->Prop) (Kp:World->World->Prop) (w:zN):Prop:=
 ∀(m l:Nat) (A:World->Prop) (D:World->Prop) (W:zN),Below w w W->w.heap.size+2<=W->At W A->At W D->
  (∀X args,ok args X->A X->YieldAt Fence.wide (m - 1) P l args X fun e F=>e=.returned (.bool false)/\D F/\Kp X F)->
  A W->CallsIn Fence.wide m P gf (#[.func (.yield l) #[] #[]]++lb) W fun e G=>(∃v,e=.returned v)/\(b=true/\D G\/b=false/\A G)
theorem range_one {g:Operand} {V:Array Tmp} {assign body:Code} {Q:Exit->Act->World->Prop} {a:Act} {w:zN} {n:Nat}
  {gf:Nat} {lb:Array Value} (ar:a.eval g=.func (.func gf) #[] lb) (ah:∀args w,(callFunc gf args).run P w=.ok (.enter gf args) w)
  {b:Bool} {ok:Array Value->World->Prop} {Kp:World->World->Prop} (hit:Aoj P gf lb b ok Kp w) (aj:∀args X,ok args X->args.size=V.size)
  (F:∀ {A B C:zN},Kp A B->Kp B C->Kp A C) (G:∀(W:zN) (l:Nat) (o ai:Obj),w.heap.size<=l->l<w.heap.size+2->W.heap[l]? =some o->o.isCells=false->Kp W (W.putObj l ai))
  (I:World->Prop) (Y:Code->World->Prop) (hI:At w I) (U:∀c,At w (Y c)) (h0:I w)
  (a1:Act->World->Prop) (hAx:∀D,At w (a1 D))
  (a7:∀(l:Nat) (args:Array Value) (W:zN) (K:Act->World->Prop),I W->ok args W->(∀D H,KeepsFrom w W H->Kp W H->I H->a1 D H->K D H)->
   assign.wpIn (Fence.wide.inRound l) (n - 1 - 1) P (Exit.then K (fun _ _ _=>False)) {tmps:=(V.zip args).foldl (fun t (p,v)=>t.setIfInBounds p v) a.tmps,defers:=[]} W)
  (a9:∀(l:Nat) (D:Act) (W:zN),w.heap.size<=l->I W->a1 D W->body.wpIn (Fence.wide.inRound l) (n - 1 - 1) P (Ui w Kp (fun _=>False) Y W) D W)
  (ag:∀(W:zN),b=false->I W->W.heap[w.heap.size]? =some (.deferred (some []))->Q .normal {a with defers:={target:=.collected w,args:=#[]}::a.defers} W)
  (ac:∀(c:Code) (W:zN),b=true->Y c W->W.heap[w.heap.size]? =some (.deferred (some []))->c.wpIn Fence.wide n P Q {a with defers:={target:=.collected w,args:=#[]}::a.defers} W):
  (Code.rangeFunc g V assign body).wpIn Fence.wide n P Q a w:=by
 have af:Fence.wide.depth.isSome=true->1<=n:=fun h=>yT
 refine wpIn_rangeFunc fun fn a5=>?_
 let la:LoopState->Option Code->Loop:=fun st ad=>{state:=st,pending:=ad,fn,tmps:=a.tmps,params:=V,assign,body,defers:=w.heap.size}
 let km:=(w.alloc (.deferred (some []))).alloc (.loop (la .ready none))
 refine Z0D ?_
 intro bjp bjo aa oz
 refine⟨w.heap.size+1,[{target:=.collected w,args:=#[]}],km,{target:=.fn (.func gf) lb,args:=#[.func (.yield (w.heap.size+1)) #[] #[]]},km,gf,
  #[.func (.yield (w.heap.size+1)) #[] #[]]++lb,km,run_enterLoop_outer _ _ _ _ _,?_,fun _ _=>trivial,?_,af,?_⟩
 ·simp only[resolve,ar]
  simp[go_sem]
 ·simp[invoke,go_sem,ah]
 refine Z3B ?_
 intro aX
 refine(hit (n - 1) (w.heap.size+1)
  (fun W=>I W/\W.heap[w.heap.size+1]? =some (.loop (la .ready none))/\W.heap[w.heap.size]? =some (.deferred (some [])))
  (fun W=>∃c,Y c W/\W.heap[w.heap.size+1]? =some (.loop (la .done (some c)))/\W.heap[w.heap.size]? =some (.deferred (some [])))
  km aa yE ((hI.mono aa.size).and ((aX _ _ yE).and (aX _ _ yE)))
  (fun A C row h ar a6=>by
   obtain⟨c,h1,h2,h3⟩:=h;exact⟨c,((U c).mono aa.size) A C row h1 ar a6,aX _ _ yE A C row h2 ar a6,aX _ _ yE A C row h3 ar a6⟩)
  ?_ ⟨hI.new (hI.new h0 _) _,bjp,bjo⟩).mono ?_
 ·rintro X args a4 ⟨ae,be,c1⟩
  refine⟨fn,_,assign,body,run_yield (P:=P) (args:=args) be (aj args X a4),roundIn_of_wpIn a5 (a7 _ args X _ ae a4 ?_)⟩;intro D bak bbl a0 ab a8;refine Z3M ?_;intro qy bl4 ao;refine⟨_,run_beginRound qy rfl,?_⟩
  let o7:=bak.putObj (w.heap.size+1) (.loop {la .ready none with state:=.busy})
  refine Z2Q ?_;intro yb iM;refine wpIn_mono (a9 _ D o7 yE (hI.put ab yE qy rfl _) ((hAx D).put a8 yE qy rfl _)) ?_;refine Z0i ?_;intro fin;rintro e a3 kc hp;cases e with
  | normal=>exact hp.2.2.elim
  | ret=>
   obtain⟨ib,J,M⟩:=hp;obtain⟨a6,l3,O,T⟩:=fin (some .ret) kc ib;exact⟨_,_,a6,⟨rfl,⟨.ret,(U _).put M yE l3 rfl _,O,T⟩,F a0 (F (F (G _ _ _ _ yE yE qy rfl) J) (G _ _ _ _ yE yE l3 rfl))⟩⟩
  | exit id=>
   obtain⟨ib,J,M⟩:=hp;obtain⟨a6,l3,O,T⟩:=fin (some (.exit id)) kc ib;exact⟨_,_,a6,⟨rfl,⟨.exit id,(U _).put M yE l3 rfl _,O,T⟩,F a0 (F (F (G _ _ _ _ yE yE qy rfl) J) (G _ _ _ _ yE yE l3 rfl))⟩⟩
  | goto t=>
   obtain⟨ib,J,M⟩:=hp;obtain⟨a6,l3,O,T⟩:=fin (some (.goto t)) kc ib;exact⟨_,_,a6,⟨rfl,⟨.goto t,(U _).put M yE l3 rfl _,O,T⟩,F a0 (F (F (G _ _ _ _ yE yE qy rfl) J) (G _ _ _ _ yE yE l3 rfl))⟩⟩
  | panic ak=>exact hp.elim
  | outgrown=>exact hp.elim
 rintro e X ⟨⟨v,rfl⟩,⟨a2,c,ae,be,c1⟩ | ⟨a2,ae,be,c1⟩⟩
 ·exact⟨some c,_,Zie (P:=P) be (by simp[la]),ac c _ a2 ((U c).put ae yE be rfl _) ((Zhj yE).trans c1)⟩
 exact⟨none,_,Zie (P:=P) be (by simp[la]),ag _ a2 (hI.put ae yE be rfl _) ((Zhj yE).trans c1)⟩
end
section
open Tryz
abbrev Pl:=List Nat
def Qi:Pl:=[0,0,0,0,0,0,0,0,0]
def Dj (p:Pl):Prop:=p.length=9/\∀x∈p,x<2^64
def Iu (i:Nat):Pl:=Qi.set (i / 64) (2^(i%64))
def Jj (p:Pl) (i:Nat):Bool:=(p.getD (i / 64) 0).testBit (i%64)
def Jg (p q:Pl):Pl:=List.zipWith (·||| ·) p q
theorem Dj.zero:Dj Qi:=⟨rfl,yH⟩
theorem Dj.at {i:Nat}:Dj (Iu i):=by
 refine⟨by simp[Iu,Qi],fun x A=>?_⟩;rcases List.mem_or_eq_of_mem_set A with h | rfl
 ·exact Dj.zero.2 x h
 exact Zgi yH (Zgd _ yH)
theorem Dj.or {p q:Pl} (h:Dj p) (k:Dj q):Dj (Jg p q):=by
 refine⟨by simp[Jg,h.1,k.1],fun x A=>?_⟩;obtain⟨i,D,rfl⟩:=Zem A;simp only[Jg,List.getElem_zipWith];exact Zgg (h.2 _ (Zat _)) (k.2 _ (Zat _))
def Cc.Q4 (l:Cc) (c:Nat):Bool:=([l.s0.toNat,l.s1.toNat,l.s2.toNat,l.s3.toNat].getD (c / 64) 0).testBit (c%64)
def Eo (l:Cc) (s:zQ) (back:Bool) (p:Pl) (k:Nat):Pl:=
 (List.range k).foldl (fun out i=>if Jj p (if back then i+1 else i)&&l.Q4 (s.getD i 0).toNat then Jg out (Iu (if back then i else i+1))else out) Qi
theorem T7 (l:Cc) (s:zQ) (back:Bool) (p:Pl) (k:Nat):
  Eo l s back p (k+1)=if Jj p (if back then k+1 else k)&&l.Q4 (s.getD k 0).toNat then Jg (Eo l s back p k) (Iu (if back then k else k+1))else Eo l s back p k:=by
 simp only[Eo,List.range_succ,List.foldl_append,Zdz,Zea]
theorem Dj.Eo {l:Cc} {s:zQ} {back:Bool} {p:Pl}:∀k,Dj (Eo l s back p k)
 | 0=>Dj.zero
 | k+1=>by
  rw[T7];generalize(Jj p (if back=true then k+1 else k)&&l.Q4 (s.getD k 0).toNat)=c;cases c
  ·exact Dj.Eo k
  ·exact(Dj.Eo k).or Dj.at
def Vq (s:zQ) (back:Bool) (l:Cc) (fs:List (Pl->Pl)) (p:Pl):Pl:=
 if l.kind=2 then Eo l s back p s
 else if l.kind=3 then(if back then fs.reverse else fs).foldl (fun q f=>f q) p
 else(fs.headD id) p
mutual
def Dk (s:zQ) (back:Bool):Rx->Pl->Pl
 | .node l t=>Vq s back l (Qa s back t)
def Qa (s:zQ) (back:Bool):List Rx->List (Pl->Pl)
 | []=>[]
 | x::xs=>Dk s back x::Qa s back xs
end
theorem Vz (s:zQ) (back:Bool) (t:List Rx):Qa s back t=t.map (Dk s back):=by
 induction t with
 | nil=>rfl
 | cons x xs A=>simp only[Qa,Zbi,A]
theorem Dj.fold {fs:List (Pl->Pl)} (A:∀f∈fs,∀p,Dj p->Dj (f p)):∀p,Dj p->Dj (fs.foldl (fun q f=>f q) p):=by
 induction fs with
 | nil=>exact fun p h=>h
 | cons f fs F=>exact fun p h=>F (fun g D=>A g (Zex _ D)) _ (A f (Zey) _ h)
theorem Dj.headD {fs:List (Pl->Pl)} (A:∀f∈fs,∀p,Dj p->Dj (f p)) (p:Pl) (h:Dj p):Dj ((fs.headD id) p):=by
 cases fs with
 | nil=>exact h
 | cons f fs=>exact A f (Zey) p h
theorem Dj.lead (s:zQ) (back:Bool) (t:Rx):∀p,Dj p->Dj (Dk s back t p):=by
 refine Tree.ind (P:=fun t=>∀p,Dj p->Dj (Dk s back t p)) (fun l t F p hp=>?_) t;have A:∀f∈Qa s back t,∀p,Dj p->Dj (f p):=by
  rw[Vz];intro f A;obtain⟨x,D,rfl⟩:=Zfb.1 A;exact F x D
 simp only[Dk,Vq];split
 ·exact Dj.Eo _
 split
 ·refine Dj.fold ?_ _ hp
  split
  ·exact fun f h=>A f (List.mem_reverse.1 h)
  exact A
 exact Dj.headD A _ hp
end
end Go.Proofs.YtafmoofknjncpaaGreatDoor
