/- A part of the proof that ModelWrong holds: its theorems stand as they are typed. -/
import Derived.Deep.CutBlock
import Derived.Deep.DeepCutAuto
import Derived.Test.YtafmoofknjncpaaGreatDoorD
set_option linter.all false
set_option maxRecDepth 100000
set_option maxHeartbeats 8000000
namespace Go.Proofs.YtafmoofknjncpaaGreatDoor
section
open Tryz Go.RowKit
def Ar (w:zN) (b:Nat) (t:TypeId) (cs:zP):Prop:=w.heap[b]? =some (.cells cs.toArray t (0,0))
section
variable {w w':zN} {b:Nat} {t:TypeId} {cs:zP}
theorem Ar.range (h:Ar w b t cs):w.rangeAt b 0 cs:=fun j v A=>by
 simp only[World.cell?,show w.heap[b]? =_ from h,Zac];simpa using A
theorem Ar.cell (h:Ar w b t cs) {j:Nat} {v:Value} (A:cs[j]? =some v):w.cell? ⟨b,j,none⟩=some v:=by
 have:=h.range j v A;rwa[Zac]at this
theorem Ar.lt (h:Ar w b t cs):b<w:=(Zbx.1 h).1
theorem Ar.there (h:Ar w b t cs):w.there b 0 cs:=by
 intro j A;refine⟨?_,by simp[World.frozen?,show w.heap[b]? =_ from h]⟩;simp[World.cell?,show w.heap[b]? =_ from h,A]
theorem Ar.frozen (h:Ar w b t cs) (j:Nat):w.frozen? ⟨b,j,none⟩=false:=by simp[World.frozen?,show w.heap[b]? =_ from h]
theorem Ar.new (w:zN) (t:TypeId) (cs:zP):Ar (w.alloc (.cells cs.toArray t)) w t cs:=Zhe w _
theorem Ar.below {n:Nat} (h:Ar w b t cs) (g:Below n w w') (U:b<n):Ar w' b t cs:=(g.block b U).trans h
theorem Ar.C4 (h:Ar w b t cs) (g:w'.heap[b]? =w.heap[b]?):Ar w' b t cs:=g.trans h
theorem Ar.grown {row:Option Nat} (h:Ar w b t cs) (g:w.grownBy w' row) (U:some b≠row):Ar w' b t cs:=(g.block b h.lt U).trans h
theorem Ar.alloc (h:Ar w b t cs) (o:Obj):Ar (w.alloc o) b t cs:=h.below (Bq w o) h.lt
theorem Ar.drewN (h:Ar w b t cs) (k:Nat):Ar (w.drewN k) b t cs:=by unfold Ar;rw[Zhg];exact h
theorem Ar.set (h:Ar w b t cs) (j:Nat) (v:Value):Ar (w.setCell ⟨b,j,none⟩ v) b t (cs.set j v):=by
 have:=Zhy w b j cs.toArray t v h;unfold Ar;rw[this];simp
theorem Ar.Em (h:Ar w b t cs) {b':Nat} (U:b≠b') (j:Nat) (v:Value):Ar (w.setCell ⟨b',j,none⟩ v) b t cs:=h.grown (As w b' j v) (by simpa using U)
theorem Ar.B8 {B:Nat}:At B fun w=>Ar w b t cs:=fun A C row h D a6=>
 (D.block b (Ar.lt h) (fun e=>sV)).trans h
end
def Z1 (cs:zP) (j:Nat):List Value->List Value
 | []=>cs
 | v::r=>Z1 (cs.set j v) (j+1) r
theorem Yd:∀(vs cs pre post:zP),cs.length=vs->Z1 (pre++cs++post) pre vs=pre++vs++post
 | [],[],_,_,_=>rfl
 | v::r,c::cs,pre,post,h=>by
  have A:=Yd r cs (pre++[v]) post yV;simp only[Z1];rw[show(pre++c::cs++post).set pre v=pre++[v]++cs++post by simp[Zfh]];simpa using A
 | [],_::_,_,_,h=>yX
 | _::_,[],_,_,h=>yX
theorem Ar.Apk {b:Nat} {t:TypeId}:∀(vs:zP) (j:Nat) (w:zN) (cs:zP),Ar w b t cs->Ar (w.setCells b j vs) b t (Z1 cs j vs)
 | [],_,_,_,h=>h
 | v::r,j,_,_,h=>Ar.Apk r (j+1) _ _ (h.set j v)
theorem Ar.fill {w:zN} {b:Nat} {t:TypeId} {cs vs:zP} (h:Ar w b t cs) (A:cs.length=vs):Ar (w.setCells b 0 vs) b t vs:=by
 have h1:=Ar.Apk vs 0 w cs h;have h2:=Yd vs cs [] [] A;simp only[Zau,Zdk,Zav]at h2;rwa[h2]at h1
theorem Ek {m:Nat} {w w':zN} (h:Below m w w') (b j:Nat) (v:Value) (hm:m<=w') (U:m<=b):Below m w (w'.setCell ⟨b,j,none⟩ v):=h.grown (As w' b j v) hm (fun r e=>by cases e;exact U)
theorem Cn {m:Nat} {w w':zN} (h:Below m w w') (b j:Nat) (vs:zP) (hm:m<=w') (U:m<=b):Below m w (w'.setCells b j vs):=h.grown (Ao w' b vs j) hm (fun r e=>by cases e;exact U)
theorem Bk {m:Nat} {w w':zN} (h:Below m w w') (k:Nat) (hm:m<=w'):Below m w (w'.drewN k):=h.grown (B5 w' k none) hm yF
theorem Bx (w:zN) (D:zP) (t1:TypeId):∃A,w.alloc (.cells D.toArray t1)=A/\Ar A w t1 D/\Below w w A/\A.heap.size=w.heap.size+1:=
 ⟨_,rfl,Ar.new w t1 D,Bq w _,yF⟩
theorem Fk (w:zN) (D F:zP) (t1 t2:TypeId):∃A,(w.alloc (.cells D.toArray t1)).alloc (.cells F.toArray t2)=A/\Ar A w t1 D/\Ar A (w+1) t2 F/\Below w w A/\A.heap.size=w.heap.size+2:=by
 refine⟨_,rfl,(Ar.new w t1 D).alloc _,?_,(Bq w _).alloc yF _,yF⟩;have:=Ar.new (w.alloc (.cells D.toArray t1)) t2 F;exact Z1z
theorem Jd (w:zN) (F D G:zP) (t1 t2 t3:TypeId):∃A,((w.alloc (.cells F.toArray t1)).alloc (.cells D.toArray t2)).alloc (.cells G.toArray t3)=A/\Ar A w t1 F/\
  Ar A (w+1) t2 D/\Ar A (w+2) t3 G/\Below w w A/\A.heap.size=w.heap.size+3:=by
 obtain⟨J,e,h1,h2,U,H⟩:=Fk w F D t1 t2
 rw[e]
 refine⟨_,rfl,h1.alloc _,h2.alloc _,?_,U.alloc yE _,by simp[H]⟩
 have:=Ar.new J t3 G
 rwa[H]at this
theorem On (w:zN) (F D G H:zP) (t1 t2 t3 t4:TypeId):∃A,(((w.alloc (.cells F.toArray t1)).alloc (.cells D.toArray t2)).alloc (.cells G.toArray t3)).alloc (.cells H.toArray t4)=A/\Ar A w t1 F/\
  Ar A (w+1) t2 D/\Ar A (w+2) t3 G/\Ar A (w+3) t4 H/\Below w w A/\A.heap.size=w.heap.size+4:=by
 obtain⟨M,e,h1,h2,h3,U,J⟩:=Jd w F D G t1 t2 t3
 rw[e]
 refine⟨_,rfl,h1.alloc _,h2.alloc _,h3.alloc _,?_,U.alloc yE _,by simp[J]⟩
 have:=Ar.new M t4 H
 rwa[J]at this
theorem Al6 (w:zN) (F D G J H:zP) (t1 t2 t3 t4 t5:TypeId):∃A,((((w.alloc (.cells F.toArray t1)).alloc (.cells D.toArray t2)).alloc (.cells G.toArray t3)).alloc (.cells J.toArray t4)).alloc (.cells H.toArray t5)=A/\Ar A w t1 F/\
  Ar A (w+1) t2 D/\Ar A (w+2) t3 G/\Ar A (w+3) t4 J/\Ar A (w+4) t5 H/\Below w w A/\A.heap.size=w.heap.size+5:=by
 obtain⟨O,e,h1,h2,h3,h4,U,M⟩:=On w F D G J t1 t2 t3 t4
 rw[e]
 refine⟨_,rfl,h1.alloc _,h2.alloc _,h3.alloc _,h4.alloc _,?_,U.alloc yE _,by simp[M]⟩
 have:=Ar.new O t5 H
 rwa[M]at this
theorem Yt {P:Program} {t:TypeId} {n:Nat} (h:(P.info? t).map (·.size)=some n):∃a,P.info? t=some a/\a.size=n:=by
 cases A:P.info? t with
 | none=>rw[A]at h;cases h
 | some a=>rw[A]at h;exact⟨a,rfl,yV⟩
section
variable {P:Program} {o:Oper} {a:Act} {w w':zN} {v:Value}
theorem B6 (ty:TypeId) (x:Operand) (H:o.op=.load ty x) (b off:Nat) (D:a.eval x=.pointer (some ⟨b,off,none⟩)) (cs:zP) (G:w.rangeAt b off cs)
  (hu:(P.underlying ty).map (·.isRow)=some true) (F:(P.info? ty).map (·.size)=some cs.length):(execOp a.eval o).run P w=.ok (.value (.agg cs.toArray)) w:=by
 obtain⟨d,M,J⟩:∃d,P.underlying ty=some d/\d.isRow=true:=by
  cases A:P.underlying ty with
  | none=>rw[A]at hu;cases hu
  | some d=>rw[A]at hu;exact⟨d,rfl,by simpa using hu⟩
 unfold execOp
 simp only[H,D,Instr.loadAt,Instr.sureAddr,Zgv,Zgw,Zgu,Zif w b off ty cs d G M J F]
theorem D8 (ty:TypeId) (x y:Operand) (D:o.op=.store ty x y) (b off:Nat) (cs:zP) (A:a.eval x=.pointer (some ⟨b,off,none⟩)) (hy:a.eval y=.agg cs.toArray)
  (F:w.there b off cs) (ae:(P.info? ty).map (·.size)=some cs.length) (h1:∀u∈cs,u.oneCell'=true):(execOp a.eval o).run P w=.ok .skip (w.setCells b off cs):=by
 have:=run_storeVar_mid (P:=P) w b off ty cs.toArray (by simpa using F) xE (all_oneCell_toArray h1)
 unfold execOp
 simp only[D,A,hy,Instr.storeAt,Instr.sureAddr,Zgv,Zgw,Zgu,this]
theorem Aqo {K:Act->World->Prop} (h:(execOp a.eval o).run P w=.ok .skip w') (J:K (a.put o.dst undef) w'):Ka P o a w K:=by
 unfold Ka;rw[h];exact J
theorem Ab7 (h:o.guard=none) (y:Nat->Option Bool):Region.wanted o y=true:=by simp[Region.wanted,h]
variable {ops:Array Oper} {L:Act->World->Prop} {c:Nat->World->Prop} {r:List (Oper×Mx)}
theorem Hg {ks:List Nat×List Nat} (D:o.guard=none) (h:(execOp a.eval o).run P w=.ok .skip w')
  (h1:∀k∈ks.1,c k w') (h2:∀k∈ks.2,c k w->c k w') (A:C8 P ops c L r (a.put o.dst undef) w'):C8 P ops c L ((o,.inr ks)::r) a w:=by
 simp only[C8]
 rw[if_pos (Ab7 D _)]
 exact Aqo h ⟨⟨h1,h2⟩,A⟩
theorem D9 {k:Option Nat} (v:Value) (D:o.guard=none) (h:∀W,cls c k W->(execOp a.eval o).run P W=.ok (.value v) W)
  (A:C8 P ops c L r (a.put o.dst v) w):C8 P ops c L ((o,.inl k)::r) a w:=by
 simp only[C8]
 rw[if_pos (Ab7 D _)]
 exact⟨v,fun W F=>by rw[h W F];exact⟨rfl,rfl⟩,A⟩
theorem Nh (t e:TypeId) (n:Nat) (x i:Operand) (M:o.op=.index t x i) (cs:Array Value) (F:a.eval x=.agg cs) (k:IntKind) (j:Nat) (G:a.eval i=.int k j) (hu:P.underlying t=some (.array n e)) (V:j<n)
  (he:(P.info? e).map (·.size)=some 1) (A:(P.underlying e).map (·.isRow)=some false) (H:cs[j]? =some v):(execOp a.eval o).run P w=.ok (.value v) w:=by
 obtain⟨d,U,W⟩:∃d,P.underlying e=some d/\d.isRow=false:=by
  cases D:P.underlying e with
  | none=>rw[D]at A;cases A
  | some d=>rw[D]at A;exact⟨d,rfl,by simpa using A⟩
 have J:(sizeOf e).run P w=.ok 1 w:=by
  obtain⟨i,h1,h2⟩:=Yt he;simp[sizeOf,typeInfo,h1,h2]
 have T:(isAgg e).run P w=.ok false w:=by
  unfold isAgg;rw[Zgv,Zig U w];cases d<;>simp_all
 have hp:(part e cs (j*1)).run P w=.ok v w:=by
  simp only[part,Zgv,T,Zgu,Zbd,Zhz,Zba,H,Zgw]
 have O:(Instr.index t (.agg cs) (.int k j)).run P w=.ok v w:=by
  unfold Instr.index;simp only[asIntOf,Zgv,Zgw,Zgu,Zig hu w];rw[if_pos ⟨yE,yE⟩];simp only[Zgv,J,Zgu,Int.toNat_natCast,hp]
 unfold execOp
 simp only[M,F,G,Zgv,O,Zgu]
 rfl
theorem wpList_load_row {Q:Exit->Act->World->Prop} {rest:List Oper} (F:o.guard=none) (ty:TypeId) (x:Operand) (H:o.op=.load ty x) (b off:Nat) (A:a.eval x=.pointer (some ⟨b,off,none⟩)) (cs:zP) (G:w.rangeAt b off cs)
  (hu:(P.underlying ty).map (·.isRow)=some true) (D:(P.info? ty).map (·.size)=some cs.length) (h:wpList P ops Q rest (a.put o.dst (.agg cs.toArray)) w):wpList P ops Q (o::rest) a w:=
 Zik F fun _ J=>by unfold Oper.wp;rw[B6 ty x H b off A cs G hu D];exact J _ _ h
theorem wpList_store_row {Q:Exit->Act->World->Prop} {rest:List Oper} (F:o.guard=none) (ty:TypeId) (x y:Operand) (G:o.op=.store ty x y) (b off:Nat) (cs:zP) (A:a.eval x=.pointer (some ⟨b,off,none⟩)) (hy:a.eval y=.agg cs.toArray)
  (H:w.there b off cs) (D:(P.info? ty).map (·.size)=some cs.length) (h1:∀u∈cs,u.oneCell'=true) (h:wpList P ops Q rest (a.put o.dst undef) (w.setCells b off cs)):wpList P ops Q (o::rest) a w:=
 Zik F fun _ J=>by unfold Oper.wp;rw[D8 ty x y G b off cs A hy H D h1];exact J _ _ h
end
end
section
open Tryz Go.RowKit Go.Shelf
theorem Alw (w:zN):Calls prog 45 #[.int .u8 120] w fun e w'=>e=.returned (.agg #[.int .u8 2,zI,.int .u64 72057594037927936,zI,zI,zE,zE,zH])/\Below w w w':=by
 go_enter func45,ntmps45
 go_wp2_with fail
 have U:Below (w.alloc (.cells #[.int .u8 2,zI,.int .u64 72057594037927936,zI,zI,zE,zE,zH] 43)).heap.size (w.alloc (.cells #[.int .u8 2,zI,.int .u64 72057594037927936,zI,zI,zE,zE,zH] 43)) ((w.alloc (.cells #[.int .u8 2,zI,.int .u64 72057594037927936,zI,zI,zE,zE,zH] 43)).alloc (.cells #[zI,.int .u64 72057594037927936,zI,zI] 40)):=Bq _ _;exact Zho (v:=.agg #[.int .u8 2,zI,.int .u64 72057594037927936,zI,zI,zE,zE,zH]) (Aq rfl _ _ w 0 [.int .u8 2,zI,.int .u64 72057594037927936,zI,zI,zE,zE,zH] rfl (Aa (Ae w [.int .u8 2,zI,.int .u64 72057594037927936,zI,zI,zE,zE,zH] 43) U yF) yG yG) rfl ⟨rfl,(Bq w _).trans (U.mono yF)⟩
theorem Alv (w:zN):Calls prog 45 #[.int .u8 121] w fun e w'=>e=.returned (.agg #[.int .u8 2,zI,.int .u64 144115188075855872,zI,zI,zE,zE,zH])/\Below w w w':=by
 go_enter func45,ntmps45
 go_wp2_with fail
 have U:Below (w.alloc (.cells #[.int .u8 2,zI,.int .u64 144115188075855872,zI,zI,zE,zE,zH] 43)).heap.size (w.alloc (.cells #[.int .u8 2,zI,.int .u64 144115188075855872,zI,zI,zE,zE,zH] 43)) ((w.alloc (.cells #[.int .u8 2,zI,.int .u64 144115188075855872,zI,zI,zE,zE,zH] 43)).alloc (.cells #[zI,.int .u64 144115188075855872,zI,zI] 40)):=Bq _ _;exact Zho (v:=.agg #[.int .u8 2,zI,.int .u64 144115188075855872,zI,zI,zE,zE,zH]) (Aq rfl _ _ w 0 [.int .u8 2,zI,.int .u64 144115188075855872,zI,zI,zE,zE,zH] rfl (Aa (Ae w [.int .u8 2,zI,.int .u64 144115188075855872,zI,zI,zE,zE,zH] 43) U yF) yG yG) rfl ⟨rfl,(Bq w _).trans (U.mono yF)⟩
theorem Alx (w:zN):Calls prog 45 #[.int .u8 113] w fun e w'=>e=.returned (.agg #[.int .u8 2,zI,.int .u64 562949953421312,zI,zI,zE,zE,zH])/\Below w w w':=by
 go_enter func45,ntmps45
 go_wp2_with fail
 have U:Below (w.alloc (.cells #[.int .u8 2,zI,.int .u64 562949953421312,zI,zI,zE,zE,zH] 43)).heap.size (w.alloc (.cells #[.int .u8 2,zI,.int .u64 562949953421312,zI,zI,zE,zE,zH] 43)) ((w.alloc (.cells #[.int .u8 2,zI,.int .u64 562949953421312,zI,zI,zE,zE,zH] 43)).alloc (.cells #[zI,.int .u64 562949953421312,zI,zI] 40)):=Bq _ _;exact Zho (v:=.agg #[.int .u8 2,zI,.int .u64 562949953421312,zI,zI,zE,zE,zH]) (Aq rfl _ _ w 0 [.int .u8 2,zI,.int .u64 562949953421312,zI,zI,zE,zE,zH] rfl (Aa (Ae w [.int .u8 2,zI,.int .u64 562949953421312,zI,zI,zE,zE,zH] 43) U yF) yG yG) rfl ⟨rfl,(Bq w _).trans (U.mono yF)⟩
theorem Uz (s:zS) (w:zN):Calls prog 46 #[s] w fun e w'=>e=.returned (.agg #[.int .u8 9,zD,s,zE,zH])/\Below w w w':=by
 obtain⟨O,A,D,F,-⟩:=Bx w [zJ,zD,zC,zE,zH] 118;have G:=Zaa A;have H:=Zaa D.there;have M:=Zaa D;clear A D;go_enter func46,ntmps46
 go_upto_region 1 with fail
 have A:=G.out;rw[A];clear A G;go_wp2_with (refine Zil rfl 118 _ _ rfl w.heap.size 0 #[.int .u8 9,zD,s,zE,zH] rfl rfl H.out yG yL ?_)
 have J:=M.out.fill (vs:=[.int .u8 9,zD,s,zE,zH]) rfl;exact Zho (v:=.agg #[.int .u8 9,zD,s,zE,zH]) (Aq rfl _ _ w 0 [.int .u8 9,zD,s,zE,zH] rfl J.range yG yG) rfl ⟨rfl,Cn F _ _ _ F.size (Zab _)⟩
theorem Alm (x:Nat) (w:zN):Calls prog 47 #[.float .f64 x] w fun e w'=>e=.returned (.agg #[.int .u8 8,.float .f64 x,zC,zE,zH])/\Below w w w':=by
 obtain⟨O,A,D,F,-⟩:=Bx w [zJ,zD,zC,zE,zH] 118;have G:=Zaa A;have H:=Zaa D.there;have M:=Zaa D;clear A D;go_enter func47,ntmps47
 go_upto_region 1 with fail
 have A:=G.out;rw[A];clear A G;go_wp2_with (refine Zil rfl 118 _ _ rfl w.heap.size 0 #[.int .u8 8,.float .f64 x,zC,zE,zH] rfl rfl H.out yG yL ?_)
 have J:=M.out.fill (vs:=[.int .u8 8,.float .f64 x,zC,zE,zH]) rfl;exact Zho (v:=.agg #[.int .u8 8,.float .f64 x,zC,zE,zH]) (Aq rfl _ _ w 0 [.int .u8 8,.float .f64 x,zC,zE,zH] rfl J.range yG yG) rfl ⟨rfl,Cn F _ _ _ F.size (Zab _)⟩
theorem Aaj (a:zO) (l c:Nat) (w:zN):Calls prog 44 #[.slice a l c] w fun e w'=>e=.returned (.agg #[.int .u8 1,zC,.slice a l c,zJ,zD,zC,zE,zH])/\Below w w w':=by
 obtain⟨O,A,D,F,-⟩:=Bx w [zJ,zC,zH,zJ,zD,zC,zE,zH] 120;have G:=Zaa A;have H:=Zaa D.there;have M:=Zaa D;clear A D;go_enter func44,ntmps44
 go_upto_region 1 with fail
 have A:=G.out;rw[A];clear A G;go_wp2_with (refine Zil rfl 120 _ _ rfl w.heap.size 0 #[.int .u8 1,zC,.slice a l c,zJ,zD,zC,zE,zH] rfl rfl H.out yG yL ?_)
 have J:=M.out.fill (vs:=[.int .u8 1,zC,.slice a l c,zJ,zD,zC,zE,zH]) rfl;exact Zho (v:=.agg #[.int .u8 1,zC,.slice a l c,zJ,zD,zC,zE,zH]) (Aq rfl _ _ w 0 [.int .u8 1,zC,.slice a l c,zJ,zD,zC,zE,zH] rfl J.range yG yG) rfl ⟨rfl,Cn F _ _ _ F.size (Zab _)⟩
theorem O8 (a b:Int) (w:zN):Calls prog 15 #[a,b] w fun e w'=>e=.returned (.agg #[.int .u8 2,a,b,zC])/\Below w w w':=by
 go_enter func15,ntmps15
 go_wp2_with fail
 exact Zho (v:=.agg #[.int .u8 2,a,b,zC]) (Aq rfl _ _ w 0 [.int .u8 2,a,b,zC] rfl (Ae w [.int .u8 2,a,b,zC] 77) yG yG) rfl ⟨rfl,Bq w _⟩
theorem Qr (b:zS) (w:zN):Calls prog 16 #[b] w fun e w'=>e=.returned (.agg #[.int .u8 1,zE,zE,b])/\Below w w w':=by
 go_enter func16,ntmps16
 go_wp2_with fail
 exact Zho (v:=.agg #[.int .u8 1,zE,zE,b]) (Aq rfl _ _ w 0 [.int .u8 1,zE,zE,b] rfl (Ae w [.int .u8 1,zE,zE,b] 77) yG yG) rfl ⟨rfl,Bq w _⟩
end
section
open Tryz Go.RowKit Go.Shelf
def wP (p:Pl):List Value:=List.map (fun x:Nat=>Value.int .u64 (x:Int)) p
theorem Dj.open {p:Pl} (h:Dj p):∃A D F G H J O M T,p=[A,D,F,G,H,J,O,M,T]:=by
 obtain⟨U,-⟩:=h
 match p,U with
 | [A,D,F,G,H,J,O,M,T],_=>exact⟨_,_,_,_,_,_,_,_,_,rfl⟩
theorem Afk {p:Pl} (h:Dj p) {q:Nat} (D:q<9):(wP p)[q]? =some (.int .u64 ((p.getD q 0:Nat):Int))/\p.getD q 0<2^64:=by
 have A:q<p:=by rw[h.1];exact D
 refine⟨by simp[wP,Zbl,List.getD,Zam A],?_⟩;simp only[List.getD,Zam A,Option.getD_some];exact h.2 _ (Zat _)
theorem Amp (x y:Nat) (a1:x<2^64) (hy:y<2^64):bits BinOp.or IntKind.u64 (x:Int) (y:Int)=((x|||y:Nat):Int):=by
 exact Z1n
theorem Ahk (x y:Nat) (A:x<2^64) (hy:y<2^64):bits BinOp.and IntKind.u64 (x:Int) (y:Int)=((x&&& y:Nat):Int):=by
 have h:=Nat.and_lt_two_pow x hy;show IntKind.u64.wrap (((BitVec.ofInt 64 (x:Int))&&& (BitVec.ofInt 64 (y:Int))).toNat:Int)=_;rw[Zce,Zce,BitVec.toNat_and,Zcf,Zcf,Zgc A,Zgc hy];generalize x&&& y=z at h;rw[Zcx];omega
theorem Aju (x y:Nat) (A:x<2^8) (hy:y<2^8):bits BinOp.and IntKind.u8 (x:Int) (y:Int)=((x&&& y:Nat):Int):=by
 have h:=Nat.and_lt_two_pow x hy;show IntKind.u8.wrap (((BitVec.ofInt 8 (x:Int))&&& (BitVec.ofInt 8 (y:Int))).toNat:Int)=_;rw[Zce,Zce,BitVec.toNat_and,Zcf,Zcf,Zgc A,Zgc hy];generalize x&&& y=z at h;rw[IntKind.wrap_u8];omega
theorem Ab9 (x r:Nat) (A:x<2^64):(bits BinOp.and IntKind.u64 ((x:Int) / 2^r) 1==1)=x.testBit r:=by
 have e:(x:Int) / 2^r=((x / 2^r:Nat):Int):=yF;have h1:x / 2^r<2^64:=Nat.lt_of_le_of_lt (Nat.div_le_self _ _) A;rw[e,show(1:Int)=((1:Nat):Int)from rfl,Ahk _ _ h1 yH,Nat.testBit_eq_decide_div_mod_eq,Nat.and_one_is_mod,Zch];simp only[Zhn,Zhu];omega
theorem Td (p:Pl) (hp:Dj p) (i:Nat) (H:i<576) (b:Nat) (w:zN) (A:w.rangeAt b 0 (wP p)):
  Calls prog 210 #[zK b,i] w fun e w'=>e=.returned (.bool (Jj p i))/\w'=w:=by
 refine Z2e ?_
 intro q b5 r q0 by7 bri c1 hm
 obtain⟨h1,h2⟩:=Afk hp by7
 have F:=A q _ h1
 rw[Zac]at F
 have D:Jj p i=(p.getD q 0).testBit r:=by unfold Jj;rw[b5,q0]
 rw[D]
 generalize p.getD q 0=x at F h2|-
 have G:(q:Int) <9:=yE
 clear D h1 A b5 q0
 go_enter func210,ntmps210
 go_wp2_with fail
 go_ret
 exact⟨by rw[<-Ab9 x r h2];rfl,rfl⟩
theorem Nu (l:Cc) (c:UInt8) (w:zN):
  Calls prog 243 #[.agg #[l.s0,l.s1,l.s2,l.s3],c] w fun e w'=>e=.returned (.bool (l.Q4 c.toNat))/\Below w w w':=by
 have D:=c.toNat_lt
 have g0:=l.s0.toNat_lt
 have g1:=l.s1.toNat_lt
 have g2:=l.s2.toNat_lt
 have g3:=l.s3.toNat_lt
 unfold Cc.Q4
 generalize l.s0.toNat=s0 at g0|-
 generalize l.s1.toNat=s1 at g1|-
 generalize l.s2.toNat=s2 at g2|-
 generalize l.s3.toNat=s3 at g3|-
 generalize c.toNat=C at D|-
 obtain⟨q,H⟩:=zL (C / 64)
 obtain⟨r,O⟩:=zL (C%64)
 have a0:q<4:=yE
 have Y:r<64:=yE
 have a1:(C:Int) / 64=(q:Int):=yE
 have hm:bits BinOp.and IntKind.u8 (C:Int) 63=(r:Int):=by
  rw[show(63:Int)=((63:Nat):Int)from rfl,Aju _ _ D yH,show(63:Nat)=2^6 - 1 from rfl,Nat.and_two_pow_sub_one_eq_mod];omega
 rw[H,O]
 obtain⟨F,M⟩:=zL (w.alloc (.cells #[.int .u64 s0,.int .u64 s1,.int .u64 s2,.int .u64 s3] 40))
 have T:Below w w F:=by rw[<-M];exact Bq _ _
 have J:F.rangeAt w 0 [.int .u64 s0,.int .u64 s1,.int .u64 s2,.int .u64 s3]:=by rw[<-M];exact Ae _ _ _
 obtain⟨x,A,U⟩:∃x:Nat,[s0,s1,s2,s3][q]? =some x/\x<2^64:=by
  rcases(show q=0\/q=1\/q=2\/q=3 from yE)with rfl | rfl | rfl | rfl
  ·exact⟨_,rfl,g0⟩
  ·exact⟨_,rfl,g1⟩
  ·exact⟨_,rfl,g2⟩
  exact⟨_,rfl,g3⟩
 have V:=J q (.int .u64 x) (by
  have:=Zhr (Option.map fun y:Nat=>Value.int .u64 (y:Int)) A;rw[<-Zbl]at this;simpa using this)
 rw[Zac]at V
 have G:([s0,s1,s2,s3].getD q 0)=x:=by simp[List.getD,A]
 rw[G]
 have W:(q:Int) <4:=yE
 clear J A G H O D g0 g1 g2 g3
 go_enter func243,ntmps243
 go_wp2_with fail
 go_ret
 exact⟨by rw[<-Ab9 x r U];rfl,T⟩
theorem Akf (r:Nat) (h:r<64):IntKind.u64.wrap ((2:Int)^r)=((2^r:Nat):Int):=by
 exact Z1N
theorem Ace (i:Nat) (A:i<576) (w:zN):
  Calls prog 209 #[i] w fun e w'=>e=.returned (.agg (wP (Iu i)).toArray)/\Below w w w':=by
 refine Z2e ?_
 intro q b5 r q0 by7 bri c1 hm
 unfold Iu
 have D:=Zaa (Akf r bri)
 rw[b5,q0]
 clear b5 q0 A
 rcases(show q=0\/q=1\/q=2\/q=3\/q=4\/q=5\/q=6\/q=7\/q=8 from yE)with rfl | rfl | rfl | rfl | rfl | rfl | rfl | rfl | rfl
 all_goals
  go_enter func209,ntmps209
  go_wp2_with fail
  simp only[D.out]
  refine Zho (v:=.agg (wP (List.set Qi _ (2^r))).toArray) (Aq rfl _ _ w 0 (wP (List.set Qi _ (2^r))) rfl (Aa (Ae w (wP (List.set Qi _ (2^r))) 304) (Bq _ _) yF) yG yG) rfl ⟨rfl,(Bq w _).alloc yF _⟩
theorem Ns {p:Pl} (hp:Dj p) {w:zN} {b:Nat} {t:TypeId} (h:Ar w b t (wP p)):∃G D F A H J M O T:Nat,wP p=[.int .u64 G,.int .u64 D,.int .u64 F,.int .u64 A,.int .u64 H,.int .u64 J,.int .u64 M,.int .u64 O,.int .u64 T]/\
  w.cell? ⟨b,0,none⟩=some (.int .u64 G)/\w.cell? ⟨b,1,none⟩=some (.int .u64 D)/\w.cell? ⟨b,2,none⟩=some (.int .u64 F)/\w.cell? ⟨b,3,none⟩=some (.int .u64 A)/\w.cell? ⟨b,4,none⟩=some (.int .u64 H)/\
  w.cell? ⟨b,5,none⟩=some (.int .u64 J)/\w.cell? ⟨b,6,none⟩=some (.int .u64 M)/\w.cell? ⟨b,7,none⟩=some (.int .u64 O)/\w.cell? ⟨b,8,none⟩=some (.int .u64 T):=by
 obtain⟨G,D,F,A,H,J,M,O,T,rfl⟩:=hp.open
 exact⟨G,D,F,A,H,J,M,O,T,rfl,h.cell (j:=0) rfl,h.cell (j:=1) rfl,h.cell (j:=2) rfl,h.cell (j:=3) rfl,h.cell (j:=4) rfl,h.cell (j:=5) rfl,h.cell (j:=6) rfl,h.cell (j:=7) rfl,h.cell (j:=8) rfl⟩
def Oi (p q:Pl) (i:Nat):Pl:=List.zipWith (·||| ·) (p.take i) (q.take i)++p.drop i
theorem Alg {p q:Pl} (hp:p.length=9) (A:q.length=9):Oi p q 9=Jg p q:=by
 simp only[Oi,Jg,Zfp (Nat.le_of_eq hp),Zfp (Nat.le_of_eq A),Zdr (Nat.le_of_eq hp),Zdk]
theorem Alf {p q:Pl} (hp:p.length=9) (D:q.length=9) {i:Nat} (A:i<9):(Oi p q i).getD i 0=p.getD i 0:=by
 simp only[List.getD,Oi];rw[Zee yJ,Zef];congr 2;simp;omega
theorem Aif {p q:Pl} (hp:p.length=9) (H:q.length=9) {i:Nat} (G:i<9):(Oi p q i).set i (p.getD i 0|||q.getD i 0)=Oi p q (i+1):=by
 have A:i<p:=yE;have D:i<q:=yE;have F:(List.zipWith (·||| ·) (p.take i) (q.take i)).length=i:=yJ;unfold Oi;rw[Zfh _ _ yE,F,Zgj,Zbq A,Zfj,Zay A,Zay D,List.zipWith_append yJ];simp[List.getD,Zam A,Zam D]
theorem Anr {p q:Pl} (hp:Dj p) (D:Dj q) (i:Nat) (F:i<=9):Dj (Oi p q i):=by
 have e:Oi p q i=(Jg p q).take i++p.drop i:=by simp[Oi,Jg,List.take_zipWith]
 rw[e];have h:=hp.or D;refine⟨by simp[h.1,hp.1];omega,fun x A=>?_⟩;rcases Zew.1 A with A | A
 ·exact h.2 x (Zfc A)
 exact hp.2 x (List.mem_of_mem_drop A)
theorem Ane (p:Pl) (i x:Nat):(wP p).set i (.int .u64 (x:Int))=wP (p.set i x):=by
 simp[wP,List.map_set]
theorem Oy:∃a,prog.info? 304=some a/\a.size=9:=Yt yG
theorem Ja (p:Pl):∀u∈wP p,u.oneCell'=true:=by
 intro u hu;obtain⟨x,_,rfl⟩:=Zfb.1 hu;rfl
theorem Aie (p q:Pl) (hp:Dj p) (O:Dj q) (w:zN):
  Calls prog 267 #[.agg (wP p).toArray,.agg (wP q).toArray] w fun e w'=>e=.returned (.agg (wP (Jg p q)).toArray)/\Below w w w':=by
 obtain⟨aq,bh,cq,ed,ez,ja,jh,jd,nt,aS⟩:=hp.open
 obtain⟨ak,q1,av,az,aA,ax,ay,aD,ah,ae⟩:=O.open
 obtain⟨aE,ba,af,a7,ab,ai,aK⟩:=Jd w (wP p) (wP q) zY 304 304 304
 have a3:=hp.1
 have a0:=O.1
 refine Z26 ?_
 intro lu
 have a2:wP q=[.int .u64 ak,.int .u64 q1,.int .u64 av,.int .u64 az,.int .u64 aA,.int .u64 ax,.int .u64 ay,.int .u64 aD,.int .u64 ah]:=by rw[ae];rfl
 rw[lu,a2]at ba
 have gn:=Zaa ba
 have ao:=Zaa af
 have ar:=Zaa a7
 have aB:=Zaa ab
 rw[lu,a2]
 have a6:=Zaa hp
 have W:=Zaa O
 clear aS ae lu a2 af a7 ab ba
 go_enter func267,ntmps267
 go_upto_region 1 with fail
 refine Z4V ?_
 go_wp2_with fail
 go_loopw [6] (fun v wr=>∃i:Nat,i<=9/\v=.int .i64 i/\Ar wr w 304 (wP (Oi p q i))/\Ar wr (w+1) 304 (wP q)/\Ar wr (w+2) 304 zY/\Below w w wr) (fun v _=>9 - (intOf v).toNat)
 case atStart=>exact⟨0,yE,rfl,ao.out,ar.out,aB.out,ai⟩
 case round=>
  obtain⟨i,aj,rfl,F,a4,H,U⟩:=hrel;have V:=U.size;by_cases G:i<9
  ·have aV:(i:Int) <9:=by omega
   have D:=Afk (Anr a6.out W.out i aj) G;have hy:=Afk W.out G;rw[Alf a3 a0 G]at D;have a5:=Aif a3 a0 G;have a1:=Zaa a5;clear a5;generalize p.getD i 0=x at D a1;generalize q.getD i 0=y at hy a1;have al:=Zaa (Amp x y D.2 hy.2);go_wp2_with fail
   have A:=F.drewN 1;have Y:=a4.drewN 1;have ag:=H.drewN 1;have an:=Bk U 1 V;have aC:w.heap.size<=(wr.drewN 1).heap.size:=by rw[Zhg];exact V
   refine Ce [(0,.inl none),(1,.inl none),(2,.inl (some 0)),(3,.inl none),(4,.inl none),(5,.inl (some 0)),(6,.inl none),(7,.inl none),(8,.inr ([],[]))]
    (fun _ X=>X.cell? ⟨w,i,none⟩=some (.int .u64 x)/\X.cell? ⟨w+1,i,none⟩=some (.int .u64 y)) [0] yG yG (fun _ _=>⟨A.cell D.1,Y.cell hy.1⟩) ?_
   refine Z3s ?_;have aJ:=A.cell D.1;have aI:=A.frozen i;have am:=Zaa A;have au:=Zaa Y;have ap:=Zaa ag;clear A Y ag F a4 H U;generalize wr.drewN 1=wd at*
   refine Z03 ?_;refine Ba (.int .u64 x) yI (fun w' M=>?_) (fun K J=>?_)
   ·have bh:=M.1
    go_simp
   refine Z2n ?_;clear J K;refine Z03 ?_;refine Ba (.int .u64 y) yI (fun w' M=>?_) (fun K J=>?_)
   ·have bh:=M.2
    go_simp
   refine Z2n ?_;clear J K;refine Z03 ?_;refine A1 rfl (fun K J=>?_);rw[al.out];go_wp2_with fail
   refine Z4v ?_;clear J K;refine B1 ?_;have T:=am.out.set i (.int .u64 ((x|||y:Nat):Int));have a8:=au.out.Em (b':=w.heap.size) yE i (.int .u64 ((x|||y:Nat):Int));have a9:=ap.out.Em (b':=w.heap.size) yE i (.int .u64 ((x|||y:Nat):Int));have aa:=Ek an w i (.int .u64 ((x|||y:Nat):Int)) aC (Zab _);rw[Ane,a1.out]at T;generalize wd.setCell ⟨w,i,none⟩ (.int .u64 ((x|||y:Nat):Int))=aW at T a8 a9 aa|-;go_wp2_with fail
   go_roundw
   case rel=>exact⟨i+1,yE,yK,T,a8,a9,aa⟩
   case measure=>simp[intOf];omega
  obtain rfl:i=9:=by omega
  rw[Alg a3 a0]at F;have aw:=a6.out.or W.out;obtain⟨aX,aQ,aR,aN,aY,aZ,b0,b1,b2,ik,aL,aM,aG,aO,aT,aP,aH,aU,aF⟩:=Ns aw F;have ac:=Zaa H.there;clear F a4 H;go_wp2_with (refine Zil rfl 304 _ _ rfl _ _ _ rfl rfl ?_ ?_ ?_ ?_)
  ·exact ac.out
  ·first | kernel_rfl | exact Oy
  ·simp[Value.oneCell']
  have ad:=Zar wr (w+2) 0 (wP (Jg p q)) (by rw[ik];exact ac.out);rw[ik]at ad;exact Zho (v:=.agg (wP (Jg p q)).toArray) (Aq rfl _ _ (w+2) 0 (wP (Jg p q)) rfl (by rw[ik];exact ad) yG tQ) rfl ⟨rfl,Cn U _ _ _ V yE⟩
end
section
open Tryz Go.RowKit Go.Shelf
def Dr (w:zN) (S:zT) (l:zQ) (v:Value):Prop:=
 ∃a c,v=.slice a l c/\l.length<=c/\(l=[]\/∃b o,a=some ⟨b,o,none⟩/\S b/\w.rangeAt b o (l.map fun x=>.int .u8 x.toNat))
theorem Dr.Ab:Cp Dr:=by
 exact Z1I
abbrev Kn (w:zN) (n:Nat):=Dr w fun b=>b<n
theorem byte_at {w:zN} {b o:Nat} {l:zQ} (h:w.rangeAt b o (l.map fun x=>.int .u8 x.toNat)) {k:Nat} (A:k<l):w.cell? ⟨b,o+k,none⟩=some (.int .u8 (l.getD k 0).toNat):=by
 apply h k;rw[Zbl,Zam A];simp[List.getD,Zam A]
theorem W6 {w:zN} {n:Nat} {l:Cc} {s:List Rx} {cs:zP} (h:Bo w n (.node l s) cs):
  ∃a c,cs=[.int .u8 l.kind.toNat,.int .u64 l.s0.toNat,.int .u64 l.s1.toNat,.int .u64 l.s2.toNat,.int .u64 l.s3.toNat,.int .i64 l.mn,.int .i64 l.mx,.slice a s c]/\s.length<=c:=by
 obtain⟨a,c,rfl,A,-⟩:=h.open
 exact⟨a,c,rfl,A⟩
theorem Ahf (s:zQ) (bj:s.length<=512) (back:Bool) (l:Cc) (ay:zO) (aA ax:Nat) (p:Pl) (hp:Dj p) (aw:zO) (aj:Nat) (w:zN) (n:Nat) (b6:n<=w) (b9:Kn w n s (.slice aw s aj)):
  Calls prog 264 #[.agg #[.slice aw s aj,back],.agg #[l.kind,l.s0,l.s1,l.s2,l.s3,l.mn,l.mx,.slice ay aA ax],.agg (wP p).toArray] w
   fun e w'=>e=.returned (.agg (wP (Eo l s back p s)).toArray)/\Below w w w':=by
 obtain⟨aq,bh,cq,ed,ez,ja,jh,jd,nt,aS⟩:=hp.open
 refine Z26 ?_
 intro lu
 obtain⟨bi,ba,az,b3,b0,aX,aV,aQ,bn⟩:=Al6 w [.slice aw s aj,back] [l.kind,l.s0,l.s1,l.s2,l.s3,l.mn,l.mx,.slice ay aA ax] (wP p) zY zY 306 43 304 304 304
 rw[lu]at ba
 have gn:=Zaa ba
 have b1:=Zaa az
 have b4:=Zaa b3
 have aU:=Zaa b0
 have aY:=Zaa aX
 have aR:=Zaa aV
 have b2:=Zaa hp
 have bm:=Zaa fun(l:Cc)=>Nu l
 have t0:=az.cell (j:=0) rfl
 have t1:=az.cell (j:=1) rfl
 rw[lu]
 clear aS lu ba az b3 b0 aX aV hp
 rcases b9 with⟨bs,br,b7,bt,h⟩
 cases b7
 rcases h with aZ | ⟨bc,bd,rfl,bf,aT⟩
 ·have be:=Zaa aZ
  clear aZ;go_enter func264,ntmps264
  go_upto_region 2 with fail
  refine Z4V ?_;go_wp2_with fail
  clear t0 t1;go_loopw [15] (fun v wr=>∃k:Nat,k<=s/\v=.int .i64 k/\Ar wr w 306 [.slice aw s aj,back]/\Ar wr (w+1) 43 [l.kind,l.s0,l.s1,l.s2,l.s3,l.mn,l.mx,.slice ay aA ax]/\Ar wr (w+2) 304 (wP p)/\Ar wr (w+3) 304 zY/\Ar wr (w+4) 304 (wP (Eo l s back p k))/\Below w w wr) (fun v _=>s.length - (intOf v).toNat)
  case atStart=>exact⟨0,yE,rfl,b1.out,b4.out,aU.out,aY.out,aR.out,aQ⟩
  case round=>
   obtain⟨k,b5,rfl,b8,fz,da,bl,i7,U⟩:=hrel;have bp:=U.size;by_cases aC:k<s
   ·skip
    exact absurd aC (by rw[be.out];simp)
   exact Z0C
 have bg:=Zaa aT
 clear aT
 go_enter func264,ntmps264
 go_upto_region 2 with fail
 refine Z4V ?_
 go_wp2_with fail
 clear t0 t1
 go_loopw [15] (fun v wr=>∃k:Nat,k<=s/\v=.int .i64 k/\Ar wr w 306 [.slice (some ⟨bc,bd,none⟩) s aj,back]/\Ar wr (w+1) 43 [l.kind,l.s0,l.s1,l.s2,l.s3,l.mn,l.mx,.slice ay aA ax]/\Ar wr (w+2) 304 (wP p)/\Ar wr (w+3) 304 zY/\Ar wr (w+4) 304 (wP (Eo l s back p k))/\Below w w wr) (fun v _=>s.length - (intOf v).toNat)
 case atStart=>exact⟨0,yE,rfl,b1.out,b4.out,aU.out,aY.out,aR.out,aQ⟩
 case round=>
  obtain⟨k,b5,rfl,b8,fz,da,bl,i7,U⟩:=hrel;have bp:=U.size;by_cases aC:k<s
  ·skip
   have bo:(k:Int) <s.length:=yE;have bq:(s.length:Int)<=512:=yE;have t1:=b8.cell (j:=1) rfl;have d:=byte_at (Aa bg.out (U.mono b6) bf) aC;have aM:=T7 l s back p k;have aW:=Dj.Eo (l:=l) (s:=s) (back:=back) (p:=p) k;have eT:=Zaa aW;obtain⟨bk,aO⟩:=zL (Eo l s back p (k+1));rw[aO]at aM;have af:=Zaa aO;have ae:=Zaa aM;clear aO;generalize Eo l s back p k=lz at i7 ae eT;generalize s.getD k 0=c at d ae;clear aM aW;have T:=Zaa b8;have F:=Zaa fz;have H:=Zaa da;have V:=Zaa bl;have Y:=Zaa i7;have a8:=Zaa U;clear b8 fz da bl i7 U;cases back
   ·have ad:=Td p b2.out (k) yE (w+2) wr H.out.range
    have D:=ae.out;clear ae;simp only[Zbd,Zhz,Zia]at D
    skip
    have a3:=Zaa ad;clear ad;cases a0:Jj p (k)with
    | false=>
     rw[a0]at D;simp only[Zci,Zbd,Zhz]at D;subst D;go_wp2_with fail
     refine a3.out.mono ?_;rintro e w' ⟨rfl,rfl⟩;rw[a0];go_wp2_with fail
     go_roundw
     case rel=>exact⟨k+1,yE,yK,T.out,F.out,H.out,V.out,(by rw[af.out];exact Y.out),a8.out⟩
     case measure=>simp[intOf];omega
    | true=>
     rw[a0]at D;simp only[Zcn]at D;have ao:=F.out.cell (j:=1) rfl;have au:=F.out.cell (j:=2) rfl;have ap:=F.out.cell (j:=3) rfl;have al:=F.out.cell (j:=4) rfl;have aa:=Zaa (Nu l c wr);cases a1:l.Q4 c.toNat with
     | false=>
      rw[a1]at D;simp only[Zbd,Zhz]at D;subst D;go_wp2_with fail
      refine a3.out.mono ?_;rintro e w' ⟨rfl,rfl⟩;rw[a0];go_wp2_with fail
      refine aa.out.mono ?_;rintro e ah ⟨rfl,A⟩;rw[a1];clear ao au ap al;go_wp2_with fail
      have a5:=T.out.below A T.out.lt;have a7:=F.out.below A F.out.lt;have a6:=H.out.below A H.out.lt;have a2:=V.out.below A V.out.lt;have O:=Y.out.below A Y.out.lt;have a4:=a8.out.trans (A.mono bp);go_roundw
      case rel=>exact⟨k+1,yE,yK,a5,a7,a6,a2,(by rw[af.out];exact O),a4⟩
      case measure=>simp[intOf];omega
     | true=>
      rw[a1]at D;simp only[Zia]at D;have aF:=Zaa D;clear D;go_wp2_with fail
      refine a3.out.mono ?_;rintro e w' ⟨rfl,rfl⟩;rw[a0];go_wp2_with fail
      refine aa.out.mono ?_;rintro e ah ⟨rfl,A⟩;rw[a1];clear ao au ap al;go_wp2_with fail
      have a5:=(T.out.below A T.out.lt).drewN 1;have a7:=(F.out.below A F.out.lt).drewN 1;have a6:=(H.out.below A H.out.lt).drewN 1;have a2:=(V.out.below A V.out.lt).drewN 1;have O:=(Y.out.below A Y.out.lt).drewN 1;have a4:=Bk (a8.out.trans (A.mono bp)) 1 (Zag bp A.size);refine Ce [(0,.inl (some 0)),(1,.inl none),(2,.inr ([],[0])),(3,.inr ([],[])),(4,.inr ([],[]))]
       (fun _ X=>Ar X (w+4) 304 (wP lz)) [0] yG yG (fun _ _=>O) ?_
      simp only[Bi,Zak,Zan,Zah,Zad,Zae,Zaj];have aD:=O.lt;have aN:=Zaa a5;have aG:=Zaa a7;have aI:=Zaa a6;have aP:=Zaa a2;have aE:=Zaa O;have ac:=Zaa a4;clear a5 a7 a6 a2 O a4 T F H V Y a8 aa a3;generalize ah.drewN 1=wd at*
      refine D9 (.agg (wP lz).toArray) rfl (fun W aJ=>B6 304 _ rfl (w.heap.size+4) 0 rfl (wP lz) (Ar.range aJ) yG rG) ?_;refine Ah (fun K J=>?_);go_simp;refine J _ ?_;clear J K;have ag:=Ace (k+1) yE wd;simp only[Int.natCast_succ]at ag;have aK:=Zaa ag;clear ag;refine A1 rfl (fun K J=>?_);go_wp2_with fail
      refine aK.out.mono ?_;rintro e aB ⟨rfl,a9⟩;go_wp2_with fail
      refine J _ _ yF (fun _ _ h=>Ar.below h a9 yE) ?_;clear J K;have aH:=Zaa (Aie lz (Iu (k+1)) eT.out Dj.at aB);refine A1 rfl (fun K J=>?_);go_wp2_with fail
      refine aH.out.mono ?_;rintro e ai ⟨rfl,aL⟩;go_wp2_with fail
      refine J _ _ yF yF ?_;clear J K;have G:=a9.trans (aL.mono a9.size);have iC:=aE.out.below G aD;have ky:(wP (Jg lz (Iu (k+1)))).length=9:=by simp[wP,(eT.out.or (Dj.at (i:=k+1))).1]
      refine Hg rfl (D8 304 _ _ rfl (w.heap.size+4) 0 (wP (Jg lz (Iu (k+1)))) rfl rfl rB xD (Ja _)) yF yF (B1 ?_);have ab:=iC.fill (vs:=wP (Jg lz (Iu (k+1)))) (by rw[ky];simp[wP,eT.out.1]);have M:=Ao ai (w+4) (wP (Jg lz (Iu (k+1)))) 0;have an:=(aN.out.below G yE).grown M yF;have av:=(aG.out.below G yE).grown M yF;have ar:=(aI.out.below G yE).grown M yF;have ak:=(aP.out.below G yE).grown M yF;have am:=(ac.out.trans (G.mono ac.out.size)).grown M (by have:=ac.out.size;have:=G.size;omega) (fun r e=>yM);generalize ai.setCells (w+4) 0 (wP (Jg lz (Iu (k+1))))=bb at ab an av ar ak am|-;rw[<-aF.out]at ab;clear M;go_wp2_with fail
      go_roundw
      case rel=>exact⟨k+1,yE,yK,an,av,ar,ak,(by rw[af.out];exact ab),am⟩
      case measure=>simp[intOf];omega
   have ad:=Td p b2.out (k+1) yE (w+2) wr H.out.range;have D:=ae.out;clear ae;simp only[Zbd,Zhz,Zia]at D;simp only[Int.natCast_succ]at ad;have a3:=Zaa ad;clear ad;cases a0:Jj p (k+1)with
   | false=>
    rw[a0]at D;simp only[Zci,Zbd,Zhz]at D;subst D;go_wp2_with fail
    refine a3.out.mono ?_;rintro e w' ⟨rfl,rfl⟩;rw[a0];go_wp2_with fail
    go_roundw
    case rel=>exact⟨k+1,yE,yK,T.out,F.out,H.out,V.out,(by rw[af.out];exact Y.out),a8.out⟩
    case measure=>simp[intOf];omega
   | true=>
    rw[a0]at D;simp only[Zcn]at D;have ao:=F.out.cell (j:=1) rfl;have au:=F.out.cell (j:=2) rfl;have ap:=F.out.cell (j:=3) rfl;have al:=F.out.cell (j:=4) rfl;have aa:=Zaa (Nu l c wr);cases a1:l.Q4 c.toNat with
    | false=>
     rw[a1]at D;simp only[Zbd,Zhz]at D;subst D;go_wp2_with fail
     refine a3.out.mono ?_;rintro e w' ⟨rfl,rfl⟩;rw[a0];go_wp2_with fail
     refine aa.out.mono ?_;rintro e ah ⟨rfl,A⟩;rw[a1];clear ao au ap al;go_wp2_with fail
     have a5:=T.out.below A T.out.lt;have a7:=F.out.below A F.out.lt;have a6:=H.out.below A H.out.lt;have a2:=V.out.below A V.out.lt;have O:=Y.out.below A Y.out.lt;have a4:=a8.out.trans (A.mono bp);go_roundw
     case rel=>exact⟨k+1,yE,yK,a5,a7,a6,a2,(by rw[af.out];exact O),a4⟩
     case measure=>simp[intOf];omega
    | true=>
     rw[a1]at D;simp only[Zia]at D;have aF:=Zaa D;clear D;go_wp2_with fail
     refine a3.out.mono ?_;rintro e w' ⟨rfl,rfl⟩;rw[a0];go_wp2_with fail
     refine aa.out.mono ?_;rintro e ah ⟨rfl,A⟩;rw[a1];clear ao au ap al;go_wp2_with fail
     have a5:=(T.out.below A T.out.lt).drewN 1;have a7:=(F.out.below A F.out.lt).drewN 1;have a6:=(H.out.below A H.out.lt).drewN 1;have a2:=(V.out.below A V.out.lt).drewN 1;have O:=(Y.out.below A Y.out.lt).drewN 1;have a4:=Bk (a8.out.trans (A.mono bp)) 1 (Zag bp A.size);refine Ce [(0,.inl (some 0)),(1,.inl none),(2,.inr ([],[0])),(3,.inr ([],[])),(4,.inr ([],[]))]
      (fun _ X=>Ar X (w+4) 304 (wP lz)) [0] yG yG (fun _ _=>O) ?_
     simp only[Bi,Zak,Zan,Zah,Zad,Zae,Zaj];have aD:=O.lt;have aN:=Zaa a5;have aG:=Zaa a7;have aI:=Zaa a6;have aP:=Zaa a2;have aE:=Zaa O;have ac:=Zaa a4;clear a5 a7 a6 a2 O a4 T F H V Y a8 aa a3;generalize ah.drewN 1=wd at*
     refine D9 (.agg (wP lz).toArray) rfl (fun W aJ=>B6 304 _ rfl (w.heap.size+4) 0 rfl (wP lz) (Ar.range aJ) yG rG) ?_;refine Ah (fun K J=>?_);go_simp;refine J _ ?_;clear J K;have ag:=Ace (k) yE wd
     skip
     have aK:=Zaa ag;clear ag;refine A1 rfl (fun K J=>?_);go_wp2_with fail
     refine aK.out.mono ?_;rintro e aB ⟨rfl,a9⟩;go_wp2_with fail
     refine J _ _ yF (fun _ _ h=>Ar.below h a9 yE) ?_;clear J K;have aH:=Zaa (Aie lz (Iu (k)) eT.out Dj.at aB);refine A1 rfl (fun K J=>?_);go_wp2_with fail
     refine aH.out.mono ?_;rintro e ai ⟨rfl,aL⟩;go_wp2_with fail
     refine J _ _ yF yF ?_;clear J K;have G:=a9.trans (aL.mono a9.size);have iC:=aE.out.below G aD;have ky:(wP (Jg lz (Iu (k)))).length=9:=by simp[wP,(eT.out.or (Dj.at (i:=k))).1]
     refine Hg rfl (D8 304 _ _ rfl (w.heap.size+4) 0 (wP (Jg lz (Iu (k)))) rfl rfl rB xD (Ja _)) yF yF (B1 ?_);have ab:=iC.fill (vs:=wP (Jg lz (Iu (k)))) (by rw[ky];simp[wP,eT.out.1]);have M:=Ao ai (w+4) (wP (Jg lz (Iu (k)))) 0;have an:=(aN.out.below G yE).grown M yF;have av:=(aG.out.below G yE).grown M yF;have ar:=(aI.out.below G yE).grown M yF;have ak:=(aP.out.below G yE).grown M yF;have am:=(ac.out.trans (G.mono ac.out.size)).grown M (by have:=ac.out.size;have:=G.size;omega) (fun r e=>yM);generalize ai.setCells (w+4) 0 (wP (Jg lz (Iu (k))))=bb at ab an av ar ak am|-;rw[<-aF.out]at ab;clear M;go_wp2_with fail
     go_roundw
     case rel=>exact⟨k+1,yE,yK,an,av,ar,ak,(by rw[af.out];exact ab),am⟩
     case measure=>simp[intOf];omega
  exact Z0C
end
section
open Tryz Go.RowKit Go.Shelf
def Wt (s:zQ) (back:Bool) (t:Rx):Prop:=
 ∀(p:Pl),Dj p->∀(D:zO) (A:Nat) (cs:zP) (w:zN) (n:Nat),n<=w->Kn w n s (.slice D s A)->Bo w n t cs->
  Calls prog 208 #[.agg #[.slice D s A,back],.agg cs.toArray,.agg (wP p).toArray] w fun e w'=>e=.returned (.agg (wP (Dk s back t p)).toArray)/\Below w w w'
theorem Gl {p:Pl} (h:Dj p):(wP p).length=9:=by simp[wP,h.1]
theorem Qj {p:Pl} (hp:Dj p):∃A D F G H J O M T:Nat,wP p=[.int .u64 A,.int .u64 D,.int .u64 F,.int .u64 G,.int .u64 H,.int .u64 J,.int .u64 O,.int .u64 M,.int .u64 T]:=by
 obtain⟨A,D,F,G,H,J,O,M,T,rfl⟩:=hp.open;exact⟨A,D,F,G,H,J,O,M,T,rfl⟩
theorem Rz {w:zN} {n:Nat} {l:Cc} {t:List Rx} {J:zO} {T:Nat} (h:Bo w n (.node l t) [l.kind,l.s0,l.s1,l.s2,l.s3,l.mn,l.mx,.slice J t T]) {k:Nat} (H:k<t):
  ∃b o A D F G,J=some ⟨b,o,none⟩/\b<n/\t[k]=.node A D/\w.rangeAt b (o+k*8) [.int .u8 A.kind.toNat,.int .u64 A.s0.toNat,.int .u64 A.s1.toNat,.int .u64 A.s2.toNat,.int .u64 A.s3.toNat,.int .i64 A.mn,.int .i64 A.mx,.slice F D G]/\Bo w n (.node A D) [.int .u8 A.kind.toNat,.int .u64 A.s0.toNat,.int .u64 A.s1.toNat,.int .u64 A.s2.toNat,.int .u64 A.s3.toNat,.int .i64 A.mn,.int .i64 A.mx,.slice F D G]:=by
 obtain⟨a,c,he,V,h3⟩:=h.open
 simp only[Cc.cells,Zas,Zau,Zdm,Zhm,Zhd,Zih]at he
 obtain⟨rfl,rfl⟩:=he
 rcases h3 with h3 | ⟨b,o,e,U,O⟩
 ·rw[h3]at H;simp at H
 obtain⟨W,h1,h2⟩:=O k H
 cases M:t[k]with
 | node A D=>
  rw[M]at h2;obtain⟨F,G,rfl,_⟩:=W6 h2;exact⟨b,o,A,D,F,G,e,U,rfl,h1,h2⟩
theorem Ahe (s:zQ) (back:Bool) (l:Cc) (t:List Rx) (x:Rx) (T:t=[x]) (aa:Wt s back x) (p:Pl) (hp:Dj p) (M:zO) (G:Nat) (ad:zO) (O:Nat) (a0:Nat) (w:zN) (n:Nat) (a5:n<=w)
  (a6:Kn w n s (.slice M s G)) (a7:Bo w n (.node l t) [l.kind,l.s0,l.s1,l.s2,l.s3,l.mn,l.mx,.slice ad t O]) (Y:Ar w a0 306 [.slice M s G,back]):
  Calls prog 269 #[.agg #[l.kind,l.s0,l.s1,l.s2,l.s3,l.mn,l.mx,.slice ad t O],.agg (wP p).toArray,zK a0] w fun e w'=>e=.returned (.agg (wP (Dk s back x p)).toArray)/\Below w w w':=by
 obtain⟨aH,aB,aJ,aK,aL,aN,aP,aO,aQ,a1⟩:=Qj hp
 obtain⟨b,o,A,a2,ai,an,rfl,U,a4,a8,ag⟩:=Rz a7 (k:=0) (by rw[T];simp)
 have ac:x=.node A a2:=by rw[<-a4];subst T;rfl
 have aA:=Zaa (show t.length=1 by rw[T];rfl)
 obtain⟨F,ba,ar,am,ae,D,ab⟩:=Jd w [l.kind,l.s0,l.s1,l.s2,l.s3,l.mn,l.mx,.slice (some ⟨b,o,none⟩) t O] (wP p) zY 43 304 304
 rw[a1]at ba
 have ax:=Y.lt
 have ah:=Y.below D ax
 have ap:=Aa a8 D yE
 have aj:=aa p hp M G _ (F.drewN 1) n (by rw[Zhg];omega) (Dr.Ab.drewN (Dr.Ab.below a6 (D.mono a5)) 1) ((Tree.In.below (ac▸ag) (D.mono a5)).drewN 1)
 have gn:=Zaa ba
 have au:=Zaa ar
 have a9:=Zaa am
 have al:=Zaa ae
 have ao:=Zaa ah
 have av:=Zaa ap
 have aG:=Zaa aj
 have aq:=Zaa hp
 rw[a1]
 clear a1 ba ar am ae ah a8 ap aj hp a6 a7 Y ag aa a4 ac T
 go_enter func269,ntmps269
 go_upto_region 1 with fail
 refine Z4V ?_
 refine Ce [(0,.inl (some 0)),(1,.inl none),(2,.inl (some 0)),(3,.inl none),(4,.inl (some 0)),(5,.inl (some 0)),(6,.inr ([],[])),(7,.inr ([],[]))]
  (fun _ X=>X=F.drewN 1) [0] yG yG (fun _ _=>rfl) ?_
 refine Z3s ?_
 have aD:=Zaa (ao.out.drewN 1)
 have az:=Zaa (au.out.drewN 1)
 have aC:=Zaa (a9.out.drewN 1)
 have aE:=Zaa (al.out.drewN 1)
 have aF:=Zaa (Ag (w':=F.drewN 1) av.out yN)
 have a3:=Zaa (Bk D 1 yE)
 have aR:(F.drewN 1).heap.size=w.heap.size+3:=by rw[Zhg];exact ab
 clear ao au a9 al av gn D ab
 generalize F.drewN 1=wd at*
 refine D9 (.agg #[.slice M s G,back]) rfl (fun W H=>by subst H;exact B6 306 _ rfl a0 0 rfl [.slice M s G,back] aD.out.range yG yG) ?_
 refine Z04 ?_
 refine Ba (.slice (some ⟨b,o,none⟩) t O) yI (fun w' aw=>?_) (fun K J=>?_)
 ·have aB:=az.out.cell (j:=7) rfl
  subst aw;go_simp
 refine Z2n ?_
 clear J K
 have aM:0<t.length:=by have:=aA.out;omega
 refine Z04 ?_
 refine D9 (.agg #[A.kind,A.s0,A.s1,A.s2,A.s3,A.mn,A.mx,.slice ai a2 an]) rfl (fun W H=>by subst H;exact B6 43 _ rfl b o rfl [A.kind,A.s0,A.s1,A.s2,A.s3,A.mn,A.mx,.slice ai a2 an] (by simpa using aF.out) yG yG) ?_
 refine D9 (.agg (wP p).toArray) rfl (fun W H=>by subst H;exact B6 304 _ rfl (w.heap.size+1) 0 rfl (wP p) aC.out.range yG (by rw[Gl aq.out];kernel_rfl)) ?_
 refine A1 rfl (fun K J=>?_)
 go_wp2_with fail
 refine aG.out.mono ?_
 rintro e ay ⟨rfl,V⟩
 go_wp2_with fail
 refine Z4v ?_
 clear J K
 have pe:=aE.out.below V yE
 have ky:(wP (Dk s back x p)).length=9:=Gl (Dj.lead s back x p aq.out)
 refine Hg rfl (D8 304 _ _ rfl (w.heap.size+2) 0 (wP (Dk s back x p)) rfl rfl uZ xD (Ja _)) yF yF (B1 ?_)
 have af:=pe.fill (vs:=wP (Dk s back x p)) vE
 have ak:=Cn (a3.out.trans (V.mono a3.out.size)) (w+2) 0 (wP (Dk s back x p)) (by have:=a3.out.size;have:=V.size;omega) yE
 generalize ay.setCells (w+2) 0 (wP (Dk s back x p))=aI at af ak|-
 go_wp2_with fail
 exact Zho (v:=.agg (wP (Dk s back x p)).toArray) (Aq rfl _ _ (w+2) 0 (wP (Dk s back x p)) rfl af.range yG xD) rfl ⟨rfl,ak⟩
def J9 (back:Bool) (t:List Rx):List Rx:=if back then t.reverse else t
def Ks (s:zQ) (back:Bool) (t:List Rx) (i:Nat) (p:Pl):Pl:=((J9 back t).take i).foldl (fun q x=>Dk s back x q) p
theorem Li (back:Bool) (t:List Rx):(J9 back t).length=t.length:=by cases back<;>simp[J9]
theorem Ajs (s:zQ) (back:Bool) (t:List Rx) (i:Nat) (A:i<t) (p:Pl):Ks s back t (i+1) p=Dk s back ((J9 back t)[i]'(by rw[Li];exact A)) (Ks s back t i p):=by
 unfold Ks;rw[Zay (by rw[Li];exact A),List.foldl_append];rfl
theorem Dj.cat {s:zQ} {back:Bool} {t:List Rx} {p:Pl} (hp:Dj p) (i:Nat):Dj (Ks s back t i p):=by
 unfold Ks;generalize(J9 back t).take i=l
 induction l generalizing p with
 | nil=>exact hp
 | cons x l A=>exact A (Dj.lead s back x p hp)
theorem fold_map {α:Type} (f:α->Pl->Pl) (l:List α) (p:Pl):(l.map f).foldl (fun q g=>g q) p=l.foldl (fun q x=>f x q) p:=by
 induction l generalizing p with
 | nil=>rfl
 | cons a l A=>simp only[Zbi,Zdz,A]
theorem Aml (s:zQ) (back:Bool) (l:Cc) (t:List Rx) (p:Pl) (A:l.kind=3):Dk s back (.node l t) p=Ks s back t t p:=by
 simp only[Dk,Vq,A,Vz];rw[if_neg yH,if_pos trivial];unfold Ks;rw[Zfp (by rw[Li];exact Zab _)];cases back
 ·simp only[J9,Zbd,Zhz]
  exact fold_map _ _ _
 simp only[J9,Zia,<-List.map_reverse];exact fold_map _ _ _
theorem An8 (s:zQ) (back:Bool) (l:Cc) (t:List Rx) (ai:0<t.length) (aH:t.length<=1000) (ad:∀x∈t,Wt s back x) (p:Pl) (hp:Dj p) (bq:zO) (bb:Nat) (ag:zO) (F:Nat) (k9:Nat) (w:zN) (n:Nat) (ah:n<=w)
  (a9:Kn w n s (.slice bq s bb)) (b8:Bo w n (.node l t) [l.kind,l.s0,l.s1,l.s2,l.s3,l.mn,l.mx,.slice ag t F]) (a3:Ar w k9 306 [.slice bq s bb,back]):
  Calls prog 265 #[.agg #[l.kind,l.s0,l.s1,l.s2,l.s3,l.mn,l.mx,.slice ag t F],.agg (wP p).toArray,zK k9] w fun e w'=>e=.returned (.agg (wP (Ks s back t t p)).toArray)/\Below w w w':=by
 obtain⟨az,ab,aE,aL,aN,aW,aY,aX,aZ,a6⟩:=Qj hp
 obtain⟨b,o,-,-,-,-,rfl,U,-⟩:=Rz b8 (k:=0) ai
 obtain⟨ax,ba,a7,am,aj,a8,aG⟩:=Jd w [l.kind,l.s0,l.s1,l.s2,l.s3,l.mn,l.mx,.slice (some ⟨b,o,none⟩) t F] (wP p) zY 43 304 304
 rw[a6]at ba
 have aq:=a3.lt
 have al:=a3.below a8 aq
 have gn:=Zaa ba
 have aw:=Zaa a7
 have ap:=Zaa am
 have au:=Zaa aj
 have av:=Zaa al
 have ac:=Zaa b8
 have bfu:=Zaa a9
 have eY:=Zaa ad
 have an:=Zaa hp
 have d7:=a7.cell (j:=7) rfl
 rw[a6]
 clear a6 ba a7 am aj al hp a9 b8 a3 ad ai
 go_enter func265,ntmps265
 go_upto_region 1 with fail
 refine Z4V ?_
 go_wp2_with fail
 clear d7
 go_loopw [11] (fun v wr=>∃i:Nat,i<=t/\v=.int .i64 i/\Ar wr k9 306 [.slice bq s bb,back]/\Ar wr w 43 [l.kind,l.s0,l.s1,l.s2,l.s3,l.mn,l.mx,.slice (some ⟨b,o,none⟩) t F]/\Ar wr (w+1) 304 (wP (Ks s back t i p))/\Ar wr (w+2) 304 zY/\Below w w wr) (fun v _=>t.length - (intOf v).toNat)
 case atStart=>exact⟨0,yE,rfl,av.out,aw.out,ap.out,au.out,a8⟩
 case round=>
  obtain⟨i,ay,rfl,b8,fz,da,bl,U⟩:=hrel;have bp:=U.size;by_cases a0:i<t
  ·have aV:(i:Int) <t.length:=by omega
   have aQ:(t.length:Int)<=1000:=yE;have t1:=b8.cell (j:=1) rfl;have d7:=fz.cell (j:=7) rfl;have eE:=Ajs s back t i a0 p;have M:=Dj.cat (s:=s) (back:=back) (t:=t) an.out i;obtain⟨aA,a4⟩:=zL (Ks s back t (i+1) p);rw[a4]at eE;generalize Ks s back t i p=lz at da eE M;have jP:=Zaa a4;have hR:=Zaa M;clear a4 M;cases back
   ·have tl:i<t:=a0
    have T:(J9 false t)[i]'(by rw[Li];exact a0)=t[i]:=rfl;rw[T]at eE;obtain⟨b2,ar,A,Y,O,V,a5,af,a1,c5,hx⟩:=Rz ac.out (k:=i) tl;cases a5;refine Z4p ?_;intro rb bbz k1 zd hq bd1 ft j5 dw ho c2 zf q3 cvl;clear b8 fz da bl c5 rb hx bbz k1 a1 eE T U;go_wp2_with fail
    refine Ce [(0,.inl (some 0)),(1,.inl none),(2,.inl (some 0)),(3,.inl none),(4,.inl none),(5,.inl (some 0)),(6,.inl (some 0)),(7,.inr ([],[])),(8,.inr ([],[]))]
     (fun _ X=>X=wr.drewN 1) [0] yG yG (fun _ _=>rfl) ?_
    refine Z3s ?_;clear t1 d7;generalize wr.drewN 1=wd at*
    refine D9 (.agg #[.slice bq s bb,zA]) rfl (fun W bm=>by subst bm;exact B6 306 _ rfl k9 0 rfl [.slice bq s bb,zA] ft.out.range yG yG) ?_;refine Z3Z ?_;refine Ba (.slice (some ⟨b,o,none⟩) t F) yI (fun w' a2=>?_) (fun K J=>?_)
    ·have ab:=j5.out.cell (j:=7) rfl
     subst a2;go_simp
    refine Z2n ?_;clear J K;refine Z03 ?_;refine D9 (.agg #[A.kind,A.s0,A.s1,A.s2,A.s3,A.mn,A.mx,.slice O Y V]) rfl (fun W bm=>by subst bm;exact B6 43 _ rfl b (o+i*8) rfl [A.kind,A.s0,A.s1,A.s2,A.s3,A.mn,A.mx,.slice O Y V] zf.out yG yG) ?_;refine D9 (.agg (wP lz).toArray) rfl (fun W bm=>sT) ?_;refine A1 rfl (fun K J=>?_);go_wp2_with fail
    refine zd.out.mono ?_;rintro e G ⟨rfl,D⟩;go_wp2_with fail
    refine J _ _ yF yF ?_;clear J K;have H:=dw.out.below D yE;have ky:(wP (Dk s false t[i] lz)).length=9:=Gl (Dj.lead _ _ _ _ hR.out);refine Hg rfl (D8 304 _ _ rfl (w.heap.size+1) 0 (wP (Dk s false t[i] lz)) rfl rfl (by rw[ky,<-Gl hR.out];exact H.there) xD (Ja _)) yF yF (B1 ?_);have x8:=H.fill (vs:=wP (Dk s false t[i] lz)) (by rw[ky,Gl hR.out]);have bu:=Ao G (w+1) (wP (Dk s false t[i] lz)) 0;have pg:=(ft.out.below D yE).grown bu yJ;have yp:=(j5.out.below D yE).grown bu yF;have ga:=(ho.out.below D yE).grown bu yF;have ml:=Cn (c2.out.trans (D.mono c2.out.size)) (w+1) 0 (wP (Dk s false t[i] lz)) (by have:=c2.out.size;have:=D.size;omega) yE;generalize G.setCells (w+1) 0 (wP (Dk s false t[i] lz))=ao at x8 pg yp ga ml|-;exact Z4M
   obtain⟨j,aa⟩:∃j,t.length=j+i+1:=⟨t - i - 1,yE⟩;have b4:(t.length:Int) - 1 - i=(j:Int):=yE;have tl:j<t.length:=yE;have aF:(j:Int) <t.length:=yE;have T:(J9 true t)[i]'(by rw[Li];exact a0)=t[j]:=by
    simp only[J9,Zia,List.getElem_reverse];congr 1;omega
   have b1:=Zaa aa;clear aa;rw[T]at eE;obtain⟨b2,ar,A,Y,O,V,a5,af,a1,c5,hx⟩:=Rz ac.out (k:=j) tl;cases a5;refine Z4p ?_;intro rb bbz k1 zd hq bd1 ft j5 dw ho c2 zf q3 cvl;clear b8 fz da bl c5 rb hx bbz k1 a1 eE T U;go_wp2_with fail
   refine Ce [(0,.inl (some 0)),(1,.inl none),(2,.inl (some 0)),(3,.inl none),(4,.inl none),(5,.inl (some 0)),(6,.inl (some 0)),(7,.inr ([],[])),(8,.inr ([],[]))]
    (fun _ X=>X=wr.drewN 1) [0] yG yG (fun _ _=>rfl) ?_
   refine Z3s ?_;clear t1 d7;generalize wr.drewN 1=wd at*
   refine D9 (.agg #[.slice bq s bb,zB]) rfl (fun W bm=>by subst bm;exact B6 306 _ rfl k9 0 rfl [.slice bq s bb,zB] ft.out.range yG yG) ?_;refine Z3Z ?_;refine Ba (.slice (some ⟨b,o,none⟩) t F) yI (fun w' a2=>?_) (fun K J=>?_)
   ·have ab:=j5.out.cell (j:=7) rfl
    subst a2;go_simp
   refine Z2n ?_;clear J K;refine Z03 ?_;refine D9 (.agg #[A.kind,A.s0,A.s1,A.s2,A.s3,A.mn,A.mx,.slice O Y V]) rfl (fun W bm=>by subst bm;exact B6 43 _ rfl b (o+j*8) rfl [A.kind,A.s0,A.s1,A.s2,A.s3,A.mn,A.mx,.slice O Y V] zf.out yG yG) ?_;refine D9 (.agg (wP lz).toArray) rfl (fun W bm=>sT) ?_;refine A1 rfl (fun K J=>?_);go_wp2_with fail
   refine zd.out.mono ?_;rintro e G ⟨rfl,D⟩;go_wp2_with fail
   refine J _ _ yF yF ?_;clear J K;have H:=dw.out.below D yE;have ky:(wP (Dk s true t[j] lz)).length=9:=Gl (Dj.lead _ _ _ _ hR.out);refine Hg rfl (D8 304 _ _ rfl (w.heap.size+1) 0 (wP (Dk s true t[j] lz)) rfl rfl (by rw[ky,<-Gl hR.out];exact H.there) xD (Ja _)) yF yF (B1 ?_);have x8:=H.fill (vs:=wP (Dk s true t[j] lz)) (by rw[ky,Gl hR.out]);have bu:=Ao G (w+1) (wP (Dk s true t[j] lz)) 0;have pg:=(ft.out.below D yE).grown bu yJ;have yp:=(j5.out.below D yE).grown bu yF;have ga:=(ho.out.below D yE).grown bu yF;have ml:=Cn (c2.out.trans (D.mono c2.out.size)) (w+1) 0 (wP (Dk s true t[j] lz)) (by have:=c2.out.size;have:=D.size;omega) yE;generalize G.setCells (w+1) 0 (wP (Dk s true t[j] lz))=ao at x8 pg yp ga ml|-;exact Z4M
  obtain rfl:i=t:=by omega
  have aO:¬((t.length:Int) <t.length):=yE;have M:=Dj.cat (s:=s) (back:=back) (t:=t) an.out t;obtain⟨b0,aR,aS,aK,b3,b5,b6,b7,b9,ik,aI,aJ,aC,aM,aT,aP,aD,aU,aB⟩:=Ns M da;have ae:=Zaa bl.there;clear b8 fz da bl;go_wp2_with (refine Zil rfl 304 _ _ rfl _ _ _ rfl rfl ?_ ?_ ?_ ?_)
  ·exact ae.out
  ·first | kernel_rfl | exact Oy
  ·simp[Value.oneCell']
  have ak:=Zar wr (w+2) 0 (wP (Ks s back t t p)) (by rw[ik];exact ae.out);rw[ik]at ak;exact Zho (v:=.agg (wP (Ks s back t t p)).toArray) (Aq rfl _ _ (w+2) 0 (wP (Ks s back t t p)) rfl (by rw[ik];exact ak) yG tQ) rfl ⟨by first | rfl | rw[ik],Cn U _ _ _ bp yE⟩
end
section
open Tryz Go.RowKit Go.Shelf
theorem Iy.six {l:Cc} {t:List Rx} (h:Iy l t):l.kind=1\/l.kind=2\/(l.kind=3/\2<=t.length)\/(l.kind=4/\2<=t.length)\/(∃x,l.kind=5/\t=[x]/\Fc l.mn l.mx)\/(∃x,l.kind=6/\t=[x]):=by
 cases h with
 | empty A _ _=>exact .inl A
 | cls A _ _=>exact .inr (.inl A)
 | cat _ A _ _ h2 _=>exact .inr (.inr (.inl ⟨A,h2⟩))
 | alt _ A _ _ h2 _=>exact .inr (.inr (.inr (.inl ⟨A,h2⟩)))
 | My x A _ U _=>exact .inr (.inr (.inr (.inr (.inl ⟨x,A,rfl,U⟩))))
 | group x A _ _=>exact .inr (.inr (.inr (.inr (.inr ⟨x,A,rfl⟩))))
theorem Aiv (s:zQ) (back:Bool) (D:zO) (A:Nat) (w:zN):
  Calls prog 237 #[.agg #[.slice D s A,back]] w fun e w'=>e=.returned (.agg #[.func (.func 262) #[] #[],.func (.func 263) #[] #[],.func (.func 264) #[.agg #[.slice D s A,back]] #[],.func (.func 265) #[] #[zK w],.func (.func 266) #[] #[zK w],.func (.func 268) #[.agg #[.slice D s A,back]] #[],.func (.func 269) #[] #[zK w]])/\Below w w w'/\Ar w' w 306 [.slice D s A,back]:=by
 obtain⟨H,F,G,J,V,a3⟩:=Fk w [.slice D s A,back] [.nilFunc,.nilFunc,.nilFunc,.nilFunc,.nilFunc,.nilFunc,.nilFunc] 306 338
 have Y:=Zaa F
 have a1:=Zaa G
 have M:=Zaa J
 have t0:=G.cell (j:=0) rfl
 have t1:=G.cell (j:=1) rfl
 clear F G J
 go_enter func237,ntmps237
 go_upto_region 1 with fail
 have F:=Y.out
 rw[F]
 go_step
 iterate 24 go_step
 have W:=M.out.there
 refine wpList_store_row rfl 338 _ _ rfl (w.heap.size+1) 0 [.func (.func 262) #[] #[],.func (.func 263) #[] #[],.func (.func 264) #[.agg #[.slice D s A,back]] #[],.func (.func 265) #[] #[zK w],.func (.func 266) #[] #[zK w],.func (.func 268) #[.agg #[.slice D s A,back]] #[],.func (.func 269) #[] #[zK w]] rfl rfl W yG yL ?_
 have U:=M.out.fill (vs:=[.func (.func 262) #[] #[],.func (.func 263) #[] #[],.func (.func 264) #[.agg #[.slice D s A,back]] #[],.func (.func 265) #[] #[zK w],.func (.func 266) #[] #[zK w],.func (.func 268) #[.agg #[.slice D s A,back]] #[],.func (.func 269) #[] #[zK w]]) rfl
 have T:=a1.out.grown (Ao H (w+1) [.func (.func 262) #[] #[],.func (.func 263) #[] #[],.func (.func 264) #[.agg #[.slice D s A,back]] #[],.func (.func 265) #[] #[zK w],.func (.func 266) #[] #[zK w],.func (.func 268) #[.agg #[.slice D s A,back]] #[],.func (.func 269) #[] #[zK w]] 0) yF
 have O:=Cn V (w+1) 0 [.func (.func 262) #[] #[],.func (.func 263) #[] #[],.func (.func 264) #[.agg #[.slice D s A,back]] #[],.func (.func 265) #[] #[zK w],.func (.func 266) #[] #[zK w],.func (.func 268) #[.agg #[.slice D s A,back]] #[],.func (.func 269) #[] #[zK w]] yE yE
 generalize H.setCells (w+1) 0 [.func (.func 262) #[] #[],.func (.func 263) #[] #[],.func (.func 264) #[.agg #[.slice D s A,back]] #[],.func (.func 265) #[] #[zK w],.func (.func 266) #[] #[zK w],.func (.func 268) #[.agg #[.slice D s A,back]] #[],.func (.func 269) #[] #[zK w]]=a2 at U T O|-
 have a0:=U.range
 go_wp2_with fail
 exact Zho (v:=.agg #[.func (.func 262) #[] #[],.func (.func 263) #[] #[],.func (.func 264) #[.agg #[.slice D s A,back]] #[],.func (.func 265) #[] #[zK w],.func (.func 266) #[] #[zK w],.func (.func 268) #[.agg #[.slice D s A,back]] #[],.func (.func 269) #[] #[zK w]]) (Aq rfl _ _ (w+1) 0 [.func (.func 262) #[] #[],.func (.func 263) #[] #[],.func (.func 264) #[.agg #[.slice D s A,back]] #[],.func (.func 265) #[] #[zK w],.func (.func 266) #[] #[zK w],.func (.func 268) #[.agg #[.slice D s A,back]] #[],.func (.func 269) #[] #[zK w]] rfl a0 yG yG) rfl ⟨rfl,O,T⟩
def Told (t:Rx):Prop:=Cd t/\∀x∈t.pre,x.Cx=2\/x.Cx=3\/x.Cx=6
theorem Told.node {l:Cc} {t:List Rx} (h:Told (.node l t)):(l.kind=2\/l.kind=3\/(l.kind=6/\∃x,t=[x]))/\∀x∈t,Told x:=by
 obtain⟨h1,h2⟩:=h;obtain⟨h3,h4⟩:=Cd.node.1 h1;refine⟨?_,fun x A=>⟨h4 x A,fun y hy=>h2 y ?_⟩⟩
 ·have:=h2 (.node l t) (Ul _)
  simp only[Tree.Cx,Tree.Ak]at this;rcases this with h | h | h
  ·exact .inl h
  ·exact .inr (.inl h)
  refine .inr (.inr ⟨h,?_⟩);rcases h3.six with k | k | ⟨k,_⟩ | ⟨k,_⟩ | ⟨x,k,_⟩ | ⟨x,k,e⟩
  ·rw[h]at k;cases k
  ·rw[h]at k;cases k
  ·rw[h]at k;cases k
  ·rw[h]at k;cases k
  ·rw[h]at k;cases k
  exact⟨x,e⟩
 rw[Tree.pre];exact Zex _ (Uo.2 ⟨x,A,hy⟩)
theorem Aly (s:zQ) (av:s.length<=512) (back:Bool) (t:Rx):Told t->t.size<=1000->Wt s back t:=by
 refine Tree.ind (P:=fun t=>Told t->t.size<=1000->Wt s back t) (fun l t ae a0 bp=>?_) t;obtain⟨aj,ai⟩:=a0.node;have h2:l.kind=3->0<t.length:=fun e=>by
  rcases(Cd.node.1 a0.1).1.six with k | k | ⟨_,h⟩ | ⟨k,_⟩ | ⟨_,k,_⟩ | ⟨_,k,_⟩
  all_goals first | omega | (rw[e]at k;cases k)
 have aa:∀x∈t,Wt s back x:=fun x F=>ae x F (ai x F) (by
  have:=Tree.D2 t x F;simp only[Tree.size]at bp;omega)
 have aC:t.length<=1000:=by
  exact Z1R
 clear ae a0 ai bp;intro p hp D A cs w n O a8 a1;obtain⟨M,H,rfl,-⟩:=W6 a1;obtain⟨aD,ax,aE,aG,aI,aJ,aL,aK,aM,U⟩:=Qj hp;obtain⟨a5,ba,ak,aq,ao,ah,a6,af⟩:=On w [.slice D s A,back] [l.kind,l.s0,l.s1,l.s2,l.s3,l.mn,l.mx,.slice M t H] (wP p) zY 306 43 304 304;have a3:=Dj.lead s back (.node l t) p hp;generalize ac:Dk s back (.node l t) p=R at a3|-;rw[U]at ba;have a4:=Zaa ac;have bt9:=Zaa a3;have ap:=Zaa ak;have ad:=Zaa ao;have an:=Zaa ah;have ab:=Zaa a1;have a2:=Zaa a8;have ag:=Zaa aa;have V:=Zaa hp;have aF:=Zaa U;rw[U];have ar:=Zaa aq;have gn:=Zaa ba;have aB:=Zaa aj;have ay:=Zaa h2;clear U ak ao ah hp a8 a1 aa ba aq ac a3 aj h2;go_enter func208,ntmps208
 go_upto_region 1 with fail
 refine Z4V ?_;have aA:=Zaa (ap.out.drewN 1);have aw:=Zaa (ar.out.drewN 1);have az:=Zaa (ad.out.drewN 1);have cZ:=Zaa (an.out.drewN 1);have ve:=Zaa (Bk a6 1 yE);have vg:=Zaa (show(a5.drewN 1).heap.size=w.heap.size+4 by rw[Zhg];exact af);refine Ce [(0,.inl (some 0)),(2,.inl none),(3,.inl (some 0)),(5,.inl (some 0)),(6,.inl (some 0)),(1,.inr ([],[0])),(4,.inl none),(7,.inr ([],[])),(8,.inr ([],[]))]
  (fun _ X=>Ar X w 306 [.slice D s A,back]/\Ar X (w+1) 43 [l.kind,l.s0,l.s1,l.s2,l.s3,l.mn,l.mx,.slice M t H]/\Ar X (w+2) 304 (wP p)) [0] yG yG (fun _ _=>⟨aA.out,aw.out,az.out⟩) ?_
 refine Z3s ?_;clear ap ar ad an gn a6 af;generalize a5.drewN 1=wd at*
 refine D9 (.agg #[.slice D s A,back]) rfl (fun W T=>B6 306 _ rfl w.heap.size 0 rfl [.slice D s A,back] (Ar.range T.1) yG yG) ?_;refine Z04 ?_;refine Ba (.int .u8 l.kind.toNat) yI (fun w' au=>?_) (fun K J=>?_)
 ·have ax:=au.2.1.cell (j:=0) rfl
  go_simp
 refine Z2n ?_;clear J K;refine D9 (.agg #[l.kind,l.s0,l.s1,l.s2,l.s3,l.mn,l.mx,.slice M t H]) rfl (fun W T=>B6 43 _ rfl (w.heap.size+1) 0 rfl [l.kind,l.s0,l.s1,l.s2,l.s3,l.mn,l.mx,.slice M t H] (Ar.range T.2.1) yG yG) ?_;refine D9 (.agg (wP p).toArray) rfl (fun W T=>B6 304 _ rfl (w.heap.size+2) 0 rfl (wP p) (Ar.range T.2.2) yG (by rw[Gl V.out];kernel_rfl)) ?_;refine A1 rfl (fun K J=>?_);go_wp2_with fail
 refine(Aiv s back D A wd).mono ?_;rintro e Y ⟨rfl,al,am⟩;have a9:=Zaa am;have aH:=al.size;have G:=Zaa (ve.out.trans (al.mono ve.out.size));clear am;go_wp2_with fail
 refine J _ _ yF (fun _ _ h=>⟨Ar.below h.1 al xC,Ar.below h.2.1 al xC,Ar.below h.2.2 al xC⟩) ?_;clear J K;rcases aB.out with a7 | a7 | ⟨a7,x,F⟩
 ·have hC:=Ahf s av back l M t H p V.out D A Y n (by have:=G.out.size;omega) (Dr.Ab.below a2.out (G.out.mono O))
  rw[<-(show Dk s back (.node l t) p=Eo l s back p s.length from by simp[Dk,Vq,a7]),a4.out]at hC;have bF:=Zaa hC;clear hC;refine D9 (.func (.func 264) #[.agg #[.slice D s A,back]] #[]) rfl (fun W _=>Nh 338 307 7 _ _ rfl _ rfl .u8 l.kind.toNat rfl yG yY yG yG (by rw[a7];rfl)) ?_;clear a7;exact Z0q
 ·have hC:=An8 s back l t (ay.out a7) aC ag.out p V.out D A M H wd Y n (by have:=G.out.size;omega) (Dr.Ab.below a2.out (G.out.mono O)) (Tree.In.below ab.out (G.out.mono O)) a9.out
  rw[<-(show Dk s back (.node l t) p=Ks s back t t p from Aml s back l t p a7),a4.out]at hC;have bF:=Zaa hC;clear hC;refine D9 (.func (.func 265) #[] #[zK wd]) rfl (fun W _=>Nh 338 307 7 _ _ rfl _ rfl .u8 l.kind.toNat rfl yG yY yG yG (by rw[a7];rfl)) ?_;clear a7;exact Z0q
 have hC:=Ahe s back l t x F (ag.out x (by rw[F];simp)) p V.out D A M H wd Y n (by have:=G.out.size;omega) (Dr.Ab.below a2.out (G.out.mono O)) (Tree.In.below ab.out (G.out.mono O)) a9.out;rw[<-(show Dk s back (.node l t) p=Dk s back x p from by subst F;simp[Dk,Qa,Vq,a7]),a4.out]at hC;have bF:=Zaa hC;clear hC;refine D9 (.func (.func 269) #[] #[zK wd]) rfl (fun W _=>Nh 338 307 7 _ _ rfl _ rfl .u8 l.kind.toNat rfl yG yY yG yG (by rw[a7];rfl)) ?_;clear a7 F;refine A1 rfl (fun K J=>?_);go_wp2_with fail
 refine bF.out.mono ?_;rintro e b4 ⟨rfl,cy⟩;go_wp2_with fail
 refine Z4v ?_;exact Z45
end
section
open Tryz Go.RowKit Go.Shelf
attribute [local go_sem] Oper.semAt_some
def Jm (p:Pl):Option Nat:=(List.range 513).find? (Jj p)
theorem Af8 {p:Nat->Bool} {n i:Nat} (ae:i<n) (h:p i=true) (D:∀j<i,p j=false):(List.range n).find? p=some i:=by
 rw[List.find?_eq_some_iff_getElem];refine⟨h,i,xE,yF,fun j A=>?_⟩;simp[D j A]
theorem Vg {p:Nat->Bool} {n:Nat} (D:∀j<n,p j=false):(List.range n).find? p=none:=by
 rw[List.find?_eq_none];intro x A;simp[D x (by simpa using A)]
theorem Arx (p:Pl) (hp:Dj p) (T H:Nat) (W:zN) (a7:W.cell? ⟨T,0,none⟩=some (.pointer (some ⟨H,0,none⟩))) (Y:W.rangeAt H 0 (wP p)) (m l:Nat) (G V:World->Prop) (h0:G W)
  (a6:∀X (i:Nat),Jm p=some i->G X->YieldAt Fence.wide (m - 1) prog l #[i] X fun e a5=>e=.returned (.bool false)/\V a5):
  CallsIn Fence.wide m prog 238 #[.func (.yield l) #[] #[],zK T] W fun e U=>(∃v,e=.returned v)/\((Jm p).isSome=true/\V U\/Jm p=none/\G U):=by
 have a0:=Zaa fun(i:Nat) (J:i<576)=>Td p hp i J H W Y
 refine Zhp func238 rfl trivial ?_ rfl
 simp only[ntmps238,Zfk,Zao,Zav,Nat.reduceAdd,Nat.reduceSub,Zcb,Zcc,Zff,Zdl,Zau,Zas]
 gi_wp2_with fail
 gi_loopw [4] (fun v wr=>∃i:Nat,i<=513/\v=.int .i64 i/\wr=W/\∀j<i,Jj p j=false) (fun v _=>513 - (intOf v).toNat)
 case atStart=>exact⟨0,Zap _,rfl,rfl,fun j M=>yE⟩
 case round=>
  obtain⟨i,J,rfl,rfl,F⟩:=hrel;by_cases a1:i<513
  ·have a9:(i:Int) <513:=by omega
   have D:=Zaa (a0.out i yE);cases A:Jj p i with
   | false=>
    rw[A]at D;gi_wp2_with fail
    refine⟨trivial,fun h=>yT,(Zhq.2 D.out).mono ?_⟩;rintro e a2 ⟨rfl,rfl⟩;gi_wp2_with fail
    refine⟨(fun f h=>yX),?_⟩;gi_wp2_with fail
    go_roundw
    case rel=>exact⟨i+1,yE,yK,trivial,fun j M=>by
     rcases Nat.lt_succ_iff_lt_or_eq.1 M with h | rfl
     ·exact F j h
     exact A⟩
    case measure=>simp[intOf];omega
   | true=>
    rw[A]at D;have O:Jm p=some i:=Af8 a1 A F;obtain⟨fn,tmps,assign,body,hy,a3⟩:=a6 wr i O h0;gi_wp2_with fail
    refine⟨trivial,fun h=>yT,(Zhq.2 D.out).mono ?_⟩;rintro e a2 ⟨rfl,rfl⟩;gi_wp2_with fail
    refine⟨fun h=>yT,a3.mono ?_⟩;rintro e a8 ⟨rfl,a4⟩;gi_wp2_with fail
    exact⟨_,Zid rfl _ _ _,⟨_,rfl⟩,.inl ⟨by rw[O];rfl,a4⟩⟩
  obtain rfl:i=513:=by omega
  gi_wp2_with fail
  exact⟨_,Zid rfl _ _ _,⟨_,rfl⟩,.inr ⟨Vg F,h0⟩⟩
theorem Aqr (A:Nat) (w:zN):
  Calls prog 211 #[zK A] w fun e w'=>e=.returned (.func (.func 238) #[] #[zK w])/\w.alloc (.cells [.pointer (some ⟨A,0,none⟩)].toArray 340)=w':=by
 go_enter func211,ntmps211
 go_wp2
 exact Z0K
end
section
open Tryz Go.RowKit Go.Shelf
attribute [local go_sem] Oper.semAt_some
theorem Ld {fn:Func} {p q:Tmp} {t1 t2:TypeId} (h:fn.results=#[.cell p t1,.cell q t2]) (tmps:Array Value) (w:zN) (b1 b2:Nat) (v1 v2:Value) (hp:tmps.getD p undef=.pointer (some ⟨b1,0,none⟩)) (A:tmps.getD q undef=.pointer (some ⟨b2,0,none⟩)) (D:w.cell? ⟨b1,0,none⟩=some v1) (G:w.cell? ⟨b2,0,none⟩=some v2)
  (H:∀w,(isAgg t1).run prog w=.ok false w) (F:∀w,(isAgg t2).run prog w=.ok false w):
  (results fn tmps).run prog w=.ok (.tuple #[v1,v2]) w:=by
 rw[Zbv]at hp A
 have h1:(loadVar t1 ⟨b1,0,none⟩).run prog w=.ok v1 w:=by simp[loadVar,Zgv,Result.andThen,H,D]
 have h2:(loadVar t2 ⟨b2,0,none⟩).run prog w=.ok v2 w:=by simp[loadVar,Zgv,Result.andThen,F,G]
 simp only[results,h]
 simp[Zgv,Result.andThen,hp,A,asAddr,h1,h2]
theorem Sc (w:zN):(isAgg 3).run prog w=.ok false w:=by
 have hu:prog.underlying 3=some (.int .i64):=yG;exact Z25
theorem Nz (w:zN):(isAgg 4).run prog w=.ok false w:=by
 have hu:prog.underlying 4=some .bool:=yG;exact Z25
def Q5 (st sp:Bool) (t:Rx) (s:zQ) (i:Nat):Option Nat:=
 if sp&&decide (i<s)then none
 else if st then(if Jj (Dk s true t (Iu i)) 0 then some 0 else none)
 else(Jm (Dk s true t (Iu i))).filter (·<=i)
theorem Og {w:zN} {b o:Nat} {pre cs:zP} (h:w.rangeAt b o (pre++cs)):w.rangeAt b (o+pre) cs:=fun j v A=>by
 have:=h (pre+j) v (by rw[Zee yE];simpa using A);rwa[<-Zfx]at this
theorem Al5 (st sp:Bool) (t:Rx) (bj:Told t) (b4:t.size<=1000) (s:zQ) (bw:s.length<=512) (i:Nat) (bU:i<=s) (au:zO) (ac:Nat) (cs:zP) (w:zN) (n:Nat) (aR:n<=w) (b1:Kn w n s (.slice au s ac)) (aS:Bo w n t cs):
  Calls prog 162 #[.agg (.bool st::.bool sp::cs).toArray,.slice au s ac,i] w fun e w'=>e=.returned (.tuple #[.int .i64 ((Q5 st sp t s i).getD 0:Nat),.bool (Q5 st sp t s i).isSome])/\Below w w w':=by
 obtain⟨F,hF⟩:=zL (Q5 st sp t s i)
 rw[hF]
 have bm:=aS
 obtain⟨a4,s0,s1,s2,s3,mn,mx,a3,a5,a2,rfl⟩:=Bo.eight aS
 clear aS
 obtain⟨bs,ab,aK,aZ,aQ,aP,aa,bi⟩:=On w [st,sp,a4,s0,s1,s2,s3,mn,mx,.slice a3 a5 a2] [i] [zE] [zA] 45 3 3 4
 have bk:=Zaa ab
 have aX:=aK.cell (j:=0) rfl
 have bQ:=aK.cell (j:=1) rfl
 have bo:=aZ.cell (j:=0) rfl
 have bp:=Zaa aK
 have aA:=Zaa aZ
 have xv:=Zaa aQ
 have sf:=Zaa aP
 have iS:=aQ.cell (j:=0) rfl
 have gO:=aP.cell (j:=0) rfl
 have blf:=aQ.frozen 0
 have blj:=aP.frozen 0
 have bF:=Zaa b1
 have bG:=Zaa bm
 clear ab aK aZ aQ aP b1 bm
 refine Z4f ?_
 refine Zhp func162 rfl trivial ?_ rfl
 simp only[ntmps162,Zfk,Zao,Zav,Nat.reduceAdd,Nat.reduceSub,Zcb,Zcc,Zff,Zdl,Zau,Zas]
 refine Zii.2 ?_
 go_upto_region 1 with fail
 have ab:=bk.out
 rw[ab]
 clear ab bk
 go_step3
 by_cases aO:sp=true/\i<s
 ·obtain⟨rfl,bv⟩:=aO
  obtain rfl:none=F:=by rw[<-hF];simp[Q5,bv]
  have c4:(i:Int) <s.length:=yE;go_wp2_with fail
  simp only[Exit.noGoto];refine⟨_,Ld rfl _ _ (w+2) (w+3) (.int .i64 0) (.bool false) rfl rfl ?_ ?_ Sc Nz,rfl,?_⟩
  ·exact((xv.out.set 0 (.int .i64 0)).Em (b':=w.heap.size+3) yE 0 (.bool false)).cell (j:=0) rfl
  ·exact((sf.out.Em (b':=w.heap.size+2) yE 0 (.int .i64 0)).set 0 (.bool false)).cell (j:=0) rfl
  exact Ek (Ek aa _ _ _ yE yE) _ _ _ yJ yE
 have bB:sp=false\/¬(i:Int) <s.length:=by
  cases sp with
  | false=>exact .inl rfl
  | true=>exact .inr (by have:¬i<s:=fun h=>aO ⟨rfl,h⟩;omega)
 have a8:F=if st then(if Jj (Dk s true t (Iu i)) 0 then some 0 else none)else(Jm (Dk s true t (Iu i))).filter (·<=i):=by
  rw[<-hF];unfold Q5;rw[if_neg];simp only[Zcg,Zhu];exact aO
 clear hF aO
 go_step
 refine wp_cut (fun T aD=>aD=bs/\∃ak al am an ao ap aq ar:Value,T={tmps:=#[.agg #[st,sp,a4,s0,s1,s2,s3,mn,mx,.slice a3 a5 a2],.slice au s ac,.int .i64 i,.pointer (some ⟨w,0,none⟩),undef,.pointer (some ⟨w+1,0,none⟩),.pointer (some ⟨w+2,0,none⟩),.pointer (some ⟨w+3,0,none⟩),undef,undef,ak,al,am,an,ao,ap,aq,ar,undef,undef,undef,undef,undef,undef,undef,undef,undef,undef,undef,undef,undef,undef,undef,undef],defers:=[]}) ?first ?rest
 case first=>
  rcases bB with rfl | c2
  all_goals
   go_wp2_with fail
 case rest=>
  rintro T aD ⟨rfl,ak,al,am,an,ao,ap,aq,ar,rfl⟩;clear aX bQ bo iS gO blf blj;have aH:=Zaa fun(X:zN) (a9:Below w w X)=>Aly s bw true t bj b4 (Iu i) Dj.at au ac _ X n (Zag aR a9.size) (Dr.Ab.below bF.out (a9.mono aR)) (B2.Ab.below bG.out (a9.mono aR))
  have aW:=Zaa fun(X:zN)=>Ace i yE X
  have aI:=Zaa (bp.out.drewN 1);have aE:=Zaa (aA.out.drewN 1);have aT:=Zaa (xv.out.drewN 1);have aY:=Zaa (sf.out.drewN 1);have aV:=Bk aa 1 yE;have bq:(aD.drewN 1).heap.size=w.heap.size+4:=by rw[Zhg];exact bi
  have az:=Zaa (Dj.lead s true t (Iu i) Dj.at);clear bp aA xv sf aa bi bj b4;generalize c0:Dk s true t (Iu i)=P at*
  simp only[Exit.then];go_upto_region 3 with fail
  refine wp_cut (fun T G=>∃(a0:Nat) (ak al am an ao ap aq ar ba bb bc bd be bf bg:Value),w+4<=a0/\Ar G a0 304 (wP P)/\Ar G w 45 [st,sp,a4,s0,s1,s2,s3,mn,mx,.slice a3 a5 a2]/\Ar G (w+1) 3 [i]/\Ar G (w+2) 3 [zE]/\Ar G (w+3) 4 [zA]/\Below w w G/\T={tmps:=#[.agg #[st,sp,a4,s0,s1,s2,s3,mn,mx,.slice a3 a5 a2],.slice au s ac,.int .i64 i,.pointer (some ⟨w,0,none⟩),undef,.pointer (some ⟨w+1,0,none⟩),.pointer (some ⟨w+2,0,none⟩),.pointer (some ⟨w+3,0,none⟩),.pointer (some ⟨a0,0,none⟩),undef,ak,al,am,an,ao,ap,aq,ar,ba,bb,bc,bd,be,bf,bg,undef,undef,undef,undef,undef,undef,undef,undef,undef],defers:=[]}) ?first ?rest
  case first=>
   refine Mn [(5,[0]),(6,[0]),(7,[0]),(8,[])] [(0,.inl none),(1,.inl none),(2,.inl none),(3,.inl (some 0)),(4,.inl (some 0))]
    (.two 5 ([0],[0]) [] (.two 6 ([0],[0]) [(7,.inr ([0],[0])),(8,.inr ([],[]))] .done 7 ([0],[0]) [(6,.inr ([0],[0])),(8,.inr ([],[]))] .done)
     7 ([0],[0]) [(5,.inr ([0],[0])),(6,.inr ([0],[0])),(8,.inr ([],[]))] .done)
    (fun _ X=>Ar X w 45 [st,sp,a4,s0,s1,s2,s3,mn,mx,.slice a3 a5 a2]/\Ar X (w+1) 3 [i]) [0] yG yG (fun _ _=>⟨aI.out,aE.out⟩) ?_
   refine Z3s ?_;generalize aD.drewN 1=wd at*
   have b3:w.heap.size+4<=wd:=yE;have b9:=aI.out;have b7:=aE.out;have b6:=aT.out;have b5:=aY.out;have aF:=aV;clear bq aI aE aT aY aV;refine Z03 ?_;refine Z3Z ?_;refine D9 (.agg [.int .u8 a4.toNat,.int .u64 s0.toNat,.int .u64 s1.toNat,.int .u64 s2.toNat,.int .u64 s3.toNat,.int .i64 mn,.int .i64 mx,.slice a3 a5 a2].toArray) rfl (fun W aG=>B6 43 _ rfl w.heap.size 2 rfl [a4,s0,s1,s2,s3,mn,mx,.slice a3 a5 a2] (Og (pre:=[st,sp]) aG.1.range) yG yG) ?_;refine Ba (.int .i64 i) yI (fun w' bu=>?_) (fun K J=>?_)
   ·have bX:=bu.2.cell (j:=0) rfl
    go_simp
   refine Z2n ?_;clear J K;refine B1 ?_;simp only[Pj,Bi,Zak,Zan,Zah,Zad,Zae,Zaj];refine⟨?_,?_⟩
   ·refine A1 rfl (fun K J=>?_)
    go_wp2_with fail
    refine(aW.out _).mono ?_;rintro e H ⟨rfl,O⟩;go_wp2_with fail
    have bae:=b9.below O yE;have ba9:=b7.below O yE;have bo8:=b6.below O yE;have bo0:=b5.below O yE;have bW:=aF.trans (O.mono aF.size);have lC:w.heap.size+4<=H:=Zag b3 O.size;refine J _ _ (fun _ _=>⟨bae,ba9⟩) (fun _ _ _=>⟨bae,ba9⟩) ?_;clear J K;refine B1 ?_;refine⟨?_,?_⟩
    ·refine A1 rfl (fun K J=>?_)
     go_wp2_with fail
     refine(aH.out _ bW).mono ?_;rintro e n2 ⟨rfl,mm⟩;go_wp2_with fail
     refine Z4x ?_;intro fC eZ bi9 bhx zs gR;refine Z55 ?_;clear J K;refine A1 rfl (fun K J=>?_);go_wp2_with fail
     obtain⟨sz,aN⟩:=zL (n2.alloc (.cells #[zI,zI,zI,zI,zI,zI,zI,zI,zI] 304));rw[aN];have Y:Ar sz n2 304 zY:=by rw[<-aN];exact Ar.new n2 304 _
     have lk:Below n2 n2 sz:=by rw[<-aN];exact Bq _ _
     refine Z4J ?_;intro fD fA bia bhy gI bbp;clear aN;refine J _ _ (fun _ _=>⟨fD,fA⟩) (fun _ _ _=>⟨fD,fA⟩) ?_;clear J K;have ky:(wP P).length=9:=Gl az.out;refine Hg rfl (D8 304 _ _ rfl n2.heap.size 0 (wP P) rfl rfl (by rw[ky];exact Y.there) xD (Ja _)) yF yF (B1 ?_);have ah:=Y.fill (vs:=wP P) vE;have M:=Ao sz (n2.heap.size) (wP P) 0;have aj:=fD.grown M yJ;have ag:=fA.grown M yJ;have ae:=bia.grown M yJ;have ad:=bhy.grown M yJ;have ay:=Cn gI (n2.heap.size) 0 (wP P) yE yE;exact⟨trivial,n2.heap.size,_,_,_,_,_,_,_,_,_,_,_,_,_,_,_,yE,ah,aj,ag,ae,ad,ay,rfl⟩
    refine A1 rfl (fun K J=>?_);go_wp2_with fail
    obtain⟨n2,aC⟩:=zL (H.alloc (.cells #[zI,zI,zI,zI,zI,zI,zI,zI,zI] 304));rw[aC];have ai:Ar n2 H 304 zY:=by rw[<-aC];exact Ar.new H 304 _
    have mm:Below H H n2:=by rw[<-aC];exact Bq _ _
    refine Z4x ?_;intro fC eZ bi9 bhx zs gR;clear aC;refine Z55 ?_;clear J K;refine A1 rfl (fun K J=>?_);go_wp2_with fail
    refine(aH.out _ zs).mono ?_;rintro e sz ⟨rfl,lk⟩;go_wp2_with fail
    refine Z4J ?_;intro fD fA bia bhy gI bbp;have Y:=ai.below lk ai.lt;refine J _ _ (fun _ _=>⟨fD,fA⟩) (fun _ _ _=>⟨fD,fA⟩) ?_;clear J K;have ky:(wP P).length=9:=Gl az.out;refine Hg rfl (D8 304 _ _ rfl H.heap.size 0 (wP P) rfl rfl (by rw[ky];exact Y.there) xD (Ja _)) yF yF (B1 ?_);have ah:=Y.fill (vs:=wP P) vE;have M:=Ao sz (H.heap.size) (wP P) 0;have aj:=fD.grown M yJ;have ag:=fA.grown M yJ;have ae:=bia.grown M yJ;have ad:=bhy.grown M yJ;have ay:=Cn gI (H.heap.size) 0 (wP P) yE yE;exact⟨trivial,H.heap.size,_,_,_,_,_,_,_,_,_,_,_,_,_,_,_,yE,ah,aj,ag,ae,ad,ay,rfl⟩
   refine A1 rfl (fun K J=>?_);go_wp2_with fail
   obtain⟨H,aB⟩:=zL (wd.alloc (.cells #[zI,zI,zI,zI,zI,zI,zI,zI,zI] 304));rw[aB];have b8:Ar H wd 304 zY:=by rw[<-aB];exact Ar.new wd 304 _
   have O:Below wd wd H:=by rw[<-aB];exact Bq _ _
   have bae:=b9.below O yE;have ba9:=b7.below O yE;have bo8:=b6.below O yE;have bo0:=b5.below O yE;have bW:=aF.trans (O.mono aF.size);have lC:w.heap.size+4<=H:=Zag b3 O.size;clear aB;refine J _ _ (fun _ _=>⟨bae,ba9⟩) (fun _ _ _=>⟨bae,ba9⟩) ?_;clear J K;refine A1 rfl (fun K J=>?_);go_wp2_with fail
   refine(aW.out _).mono ?_;rintro e n2 ⟨rfl,mm⟩;go_wp2_with fail
   refine Z4x ?_;intro fC eZ bi9 bhx zs gR;have ai:=b8.below mm b8.lt;refine Z55 ?_;clear J K;refine A1 rfl (fun K J=>?_);go_wp2_with fail
   refine(aH.out _ zs).mono ?_;rintro e sz ⟨rfl,lk⟩;go_wp2_with fail
   refine Z4J ?_;intro fD fA bia bhy gI bbp;have Y:=ai.below lk ai.lt;refine J _ _ (fun _ _=>⟨fD,fA⟩) (fun _ _ _=>⟨fD,fA⟩) ?_;clear J K;have ky:(wP P).length=9:=Gl az.out;refine Hg rfl (D8 304 _ _ rfl wd.heap.size 0 (wP P) rfl rfl (by rw[ky];exact Y.there) xD (Ja _)) yF yF (B1 ?_);have ah:=Y.fill (vs:=wP P) vE;have M:=Ao sz (wd.heap.size) (wP P) 0;have aj:=fD.grown M yJ;have ag:=fA.grown M yJ;have ae:=bia.grown M yJ;have ad:=bhy.grown M yJ;have ay:=Cn gI (wd.heap.size) 0 (wP P) yE yE;exact⟨trivial,wd.heap.size,_,_,_,_,_,_,_,_,_,_,_,_,_,_,_,yE,ah,aj,ag,ae,ad,ay,rfl⟩
  case rest=>
   rintro T G ⟨a0,ak,al,am,an,ao,ap,aq,ar,ba,bb,bc,bd,be,bf,bg,c6,aL,bl,bn,ax,av,U,rfl⟩;simp only[Exit.then];have bM:=aL.lt;have aX:=bl.cell (j:=0) rfl;clear aI aE aT aY aV bq aH aW;cases st with
   | true=>
    rw[if_pos rfl]at a8;have bt:=Zaa (Td P az.out 0 yE a0 G aL.range);have iS:=ax.cell (j:=0) rfl;have gO:=av.cell (j:=0) rfl;have blf:=ax.frozen 0;have blj:=av.frozen 0;go_wp2_with fail
    refine bt.out.mono ?_;rintro e vc ⟨rfl,rfl⟩;go_wp2_with fail
    simp only[Exit.noGoto];refine⟨_,Ld rfl _ _ (w+2) (w+3) (.int .i64 0) (.bool (Jj P 0)) rfl rfl ?_ ?_ Sc Nz,?_,?_⟩
    ·exact((ax.set 0 (.int .i64 0)).Em (b':=w.heap.size+3) yE 0 (.bool (Jj P 0))).cell (j:=0) rfl
    ·exact((av.Em (b':=w.heap.size+2) yE 0 (.int .i64 0)).set 0 (.bool (Jj P 0))).cell (j:=0) rfl
    ·subst a8
     cases Jj P 0<;>rfl
    exact Ek (Ek U _ _ _ yE yE) _ _ _ yJ yE
   | false=>
    rw[if_neg yF]at a8;have bD:=Zaa (Aqr a0 G);go_wp2_with fail
    go_step3;go_wp2_with fail
    refine bD.out.mono ?_;rintro e vc ⟨rfl,aU⟩;clear aX;go_wp2_with fail
    have a1:Below G G vc:=by rw[<-aU];exact Bq _ _
    have b2:Ar vc G 340 [zK a0]:=by rw[<-aU];exact Ar.new G 340 _
    have bJ:=b2.lt;clear aU;have c1:=a1.size;have c3:=U.size;have bN:=(aL.below a1 bM).range;have bI:=bn.below a1 yE;have bH:=ax.below a1 yE;have bE:=av.below a1 yE;have bA:=U.trans (a1.mono U.size);clear aL bl bn ax av U a1;have wb:∀(aw:Array Value) (X:zN) (v1 v2:Value),Ar X (w+2) 3 [v1]->Ar X (w+3) 4 [v2]->Below w w X->X.heap[vc.heap.size]? =some (.deferred (some []))->
      aw.getD 6 undef=.pointer (some ⟨w+2,0,none⟩)->aw.getD 7 undef=.pointer (some ⟨w+3,0,none⟩)->v1=.int .i64 (F.getD 0:Nat)->v2=.bool F.isSome->
      LeavesInM Fence.wide 5 prog f162 aw (fun r aJ=>r=Ending.returned (.tuple #[.int .i64 (F.getD 0:Nat),F.isSome])/\Below w w aJ) (marks [vc.heap.size]) .returning X:=fun aw X v1 v2 h1 h2 h3 h4 h5 h6 h7 h8=>
     Fy (B:=vc.heap.size) (Z:=fun W=>Ar W (w+2) 3 [v1]/\Ar W (w+3) 4 [v2]/\Below w w W) (Ar.B8.and (Ar.B8.and (E3 yE (Zab _))))
      (fun aJ h=>⟨_,Ld rfl aw aJ _ _ v1 v2 h5 h6 (h.1.cell (j:=0) rfl) (h.2.1.cell (j:=0) rfl) Sc Nz,by rw[h7,h8],h.2.2⟩) [vc.heap.size] X yF (fun D fM=>tU) ⟨h1,h2,h3⟩
    refine(Zii (n:=5)).1 (range_one (gf:=238) (lb:=#[zK G]) rfl (fun _ _=>rfl) (b:=(Jm P).isSome) (ok:=fun args _=>∃k:Nat,args=#[.int .i64 k]/\Jm P=some k) (Kp:=fun _ _=>True)
     ?it (fun args X ⟨p,e,_⟩=>yS) (fun _ _=>trivial) (fun _ _ _ _ _ _ _ _=>trivial)
     (fun X=>Ar X (w+1) 3 [i]/\Ar X (w+2) 3 [zE]/\Ar X (w+3) 4 [zA]/\Below w w X)
     (fun c X=>∃k:Nat,Jm P=some k/\Below w w X/\((c=.ret/\k<=i/\Ar X (w+2) 3 [k]/\Ar X (w+3) 4 [zB])\/(c=.exit 0/\¬k<=i/\Ar X (w+2) 3 [zE]/\Ar X (w+3) 4 [zA])))
     (Ar.B8.and (Ar.B8.and (Ar.B8.and (E3 yE (Zab _)))))
     (fun c A C row ⟨k,h0,h1,h⟩ a7 a6=>⟨k,h0,E3 yE (Zab _) A C row h1 a7 a6,h.imp (fun⟨a,b,c,d⟩=>⟨a,b,Ar.B8 A C row c a7 a6,Ar.B8 A C row d a7 a6⟩) (fun⟨a,b,c,d⟩=>⟨a,b,Ar.B8 A C row c a7 a6,Ar.B8 A C row d a7 a6⟩)⟩) ⟨bI,bH,bE,bA⟩
     (fun T X=>∃(k:Nat) (v0 v1 v2 v4 v8 v10 v11 v12 v13 v14 v15 v16 v17 v18 v19 v20 v21 v22 v23 v24 v25 v26 v27 v28 v29 v30 v31 v32 v33:Value),Jm P=some k/\T={tmps:=#[v0,v1,v2,.pointer (some ⟨w,0,none⟩),v4,.pointer (some ⟨w+1,0,none⟩),.pointer (some ⟨w+2,0,none⟩),.pointer (some ⟨w+3,0,none⟩),v8,.int .i64 (k:Int),v10,v11,v12,v13,v14,v15,v16,v17,v18,v19,v20,v21,v22,v23,v24,v25,v26,v27,v28,v29,v30,v31,v32,v33],defers:=[]})
     (fun T A C row h a7 a6=>h) ?assign ?body ?done ?stop)
    case it=>
     intro m l bO bR W aG bV c5 c8 h1 h0;refine(Arx P az.out G a0 W ((b2.below aG bJ).cell (j:=0) rfl) (Aa bN aG yE) m l bO bR h0 (fun X k V a9=>by
      obtain⟨fn,tmps,bx,bT,q1,bP⟩:=h1 X _ ⟨k,rfl,V⟩ a9;exact⟨fn,tmps,bx,bT,q1,bP.mono fun e bZ ⟨a,b,_⟩=>⟨a,b⟩⟩)).mono ?_
     rintro e aJ ⟨b0,⟨h1,bC⟩ | ⟨heq,U⟩⟩
     ·exact⟨b0,.inl ⟨h1,bC⟩⟩
     exact⟨b0,.inr ⟨by rw[heq];rfl,U⟩⟩
    case assign=>
     rintro bS args X bY hI ⟨k,rfl,V⟩ bz;refine Z0y ?_;gi_wp2_with fail
     exact bz _ _ (Zdb _ _) trivial hI ⟨k,_,_,_,_,_,_,_,_,_,_,_,_,_,_,_,_,_,_,_,_,_,_,_,_,_,_,_,_,_,V,rfl⟩
    case body=>
     rintro bS T X c7 ⟨aA,xv,sf,aa⟩ ⟨k,v0,v1,v2,v4,v8,v10,v11,v12,v13,v14,v15,v16,v17,v18,v19,v20,v21,v22,v23,v24,v25,v26,v27,v28,v29,v30,v31,v32,v33,V,rfl⟩;have bo:=aA.cell (j:=0) rfl;have iS:=xv.cell (j:=0) rfl;have gO:=sf.cell (j:=0) rfl;have blf:=xv.frozen 0;have blj:=sf.frozen 0;by_cases aM:k<=i
     ·have bL:¬(k:Int) >i:=by omega
      gi_wp2_with fail
      refine⟨(Zda (As _ _ _ _) (fun j e=>yM)).trans (Zda (As _ _ _ _) (fun j e=>yM)),trivial,Ek (Ek aa _ _ _ xA yE) _ _ _ (by have:=aa.size;simp;omega) yE,.inl ⟨rfl,?_,?_⟩⟩
      ·exact(xv.set 0 (.int .i64 k)).Em (b':=w.heap.size+3) yE 0 (.bool true)
      exact(sf.Em (b':=w.heap.size+2) yE 0 (.int .i64 k)).set 0 (.bool true)
     have bL:(k:Int) >i:=by omega
     gi_wp2_with fail
     exact⟨Zdb _ _,trivial,k,V,aa,.inr ⟨rfl,aM,xv,sf⟩⟩
    case done=>
     rintro X br ⟨aA,xv,sf,aa⟩ hj;have bjy:F=none:=by
      rw[a8];cases bK:Jm P with
      | none=>rfl
      | some k=>rw[bK]at br;cases br
     exact Z0A
    case stop=>
     rintro c X hbt ⟨k,V,aa,⟨rfl,aM,xv,sf⟩ | ⟨rfl,aM,xv,sf⟩⟩ hj
     ·have bh:F=some k:=by rw[a8,V];simp[aM]
      gi_wp2_with fail
      exact wb _ _ _ _ xv sf aa hj rfl rfl (by rw[bh];rfl) (by rw[bh];rfl)
     have bjy:F=none:=by rw[a8,V];simp;omega
     exact Z0A
end
section
open Tryz Go.RowKit
theorem Oh:∃f0 f1 f2:Field,prog.underlying 318=some (.struct #[f0,f1,f2])/\(f0.name≠ "_" /\f0.type=3/\f0.offset=0)/\(f1.name≠ "_" /\f1.type=3/\f1.offset=1)/\(f2.name≠ "_" /\f2.type=3/\f2.offset=2):=by
 have h:(prog.underlying 318).map (fun d=>match d with | .struct fs=>some (fs.toList.map fun f=>(f.name== "_",f.type,f.offset)) | _=>none)=some (some [(false,3,0),(false,3,1),(false,3,2)]):=yG;cases A:prog.underlying 318 with
 | none=>rw[A]at h;cases h
 | some d=>
  rw[A]at h;cases d with
  | struct fs=>
   obtain⟨l⟩:=fs;simp only[Zaj,Zbb]at h
   match l,h with
   | [f0,f1,f2],h=>
    simp only[Zbi,Zeu,Zdm,Zgr,Zaz,Zhm]at h;exact⟨f0,f1,f2,rfl,h.1,h.2.1,h.2.2⟩
  | _=>simp at h
theorem Mf (w:zN) (cs:Array Value) (i:Nat) (v:Value) (h:cs[i]? =some v):(part 3 cs i).run prog w=.ok v w:=by
 have A:(isAgg 3).run prog w=.ok false w:=by
  have hu:prog.underlying 3=some (.int .i64):=yG;exact Z25
 simp only[part,Zgv,A,Zgu,Zbd,Zhz,h,Zgw]
def Hk (i d a:Nat):Value:=.agg #[i,d,a]
theorem Aic (n:Nat) (w:zN) (a0 F a2 D b1 b2:Int):(Op.equalIn (n+2) 318 (.agg #[a0,F,a2]) (.agg #[D,b1,b2])).run prog w=.ok (a0==D&&(F==b1&&a2==b2)) w:=by
 obtain⟨f0,f1,f2,hu,⟨mi,t0,M⟩,⟨wo,t1,O⟩,yd,t2,H⟩:=Oh;have he:prog.underlying 3=some (.int .i64):=yG;have J:prog.stoodInHeld 318=false:=yG;have A:=fun(a b:Int)=>run_equalIn_int (P:=prog) w n 3 .i64 .i64 a b he
 rw[show n+2=(n+1)+1 from rfl];generalize n+1=d1 at A|-;simp only[Op.equalIn,Zgv,Zig hu,Zgu];have G:Sem.run prog program w=.ok prog w:=rfl;refine Z0Y ?_;intro aq bh cq g0 g1 g2;simp only[G,Zgu,J,Zbd,Zhz,List.forIn_toArray,List.forIn_cons,List.forIn_nil,Zgv,g0,g1,g2,Zia,t0,t1,t2,M,O,H,aq,bh,cq,A];cases h0:(a0==D)with
 | false=>simp only[Zcj,Zia,Zgw,Zgu,Zci]
 | true=>
  simp only[Zck,Zbd,Zhz,Zgw,Zgu,Zgv,Zcn,aq,bh,cq,A];cases h1:(F==b1)with
  | false=>simp only[Zcj,Zia,Zgw,Zgu,Zci]
  | true=>
   simp only[Zck,Zbd,Zhz,Zgw,Zgu,Zgv,Zcn,aq,bh,cq,A];cases h2:(a2==b2)with
   | false=>simp only[Zcj,Zia,Zgw,Zgu]
   | true=>simp only[Zck,Zbd,Zhz,Zgw,Zgu,Zgv]
theorem Ald (w:zN) (i d a j e b:Nat):(Op.equal 318 (Hk i d a) (Hk j e b)).run prog w=.ok (decide (i=j/\d=e/\a=b)) w:=by
 have h1:(Op.equalIn 10000 318 (.agg #[.int .i64 (i:Int),.int .i64 (d:Int),.int .i64 (a:Int)]) (.agg #[.int .i64 (j:Int),.int .i64 (e:Int),.int .i64 (b:Int)])).run prog w=.ok ((i:Int)==(j:Int)&&((d:Int)==(e:Int)&&(a:Int)==(b:Int))) w:=Aic 9998 w i d a j e b;have A:decide (i=j/\d=e/\a=b)=((i:Int)==(j:Int)&&((d:Int)==(e:Int)&&(a:Int)==(b:Int))):=by
  rw[Zch];simp only[Zcg,Zhn,Zhu];omega
 rw[A];exact h1
theorem Tw (w:zN) (em:Bool) (i d a:Nat):(Instr.checkKey em 10000 318 (Hk i d a)).run prog w=.ok () w:=by
 obtain⟨f0,f1,f2,hu,⟨mi,t0,G⟩,⟨wo,t1,H⟩,yd,t2,F⟩:=Oh;have he:prog.underlying 3=some (.int .i64):=yG;have D:∀(n:Nat) (x:Int),(Instr.checkKey em (n+1) 3 (.int .i64 x)).run prog w=.ok () w:=fun n x=>by
  unfold Instr.checkKey;simp only[Zgv,Zig he,Zgu,Zgw]
 refine Z0Y ?_;intro aq bh cq g0 g1 g2;have A:=D 9998;rw[show(10000:Nat)=9999+1 from rfl];rw[show(9998+1:Nat)=9999 from rfl]at A;generalize 9999=m at A|-;unfold Hk;simp only[Instr.checkKey,Zgv,Zig hu,Zgu,List.forIn_toArray,List.forIn_cons,List.forIn_nil,g0,g1,g2,Zia,t0,t1,t2,G,H,F,aq,bh,cq,A,Zgw]
def Dh (w:zN) (S:zT) (l:List Nat) (v:Value):Prop:=
 ∃a c,v=.slice a l c/\l.length<=c/\(l=[]\/∃b o,a=some ⟨b,o,none⟩/\S b/\w.rangeAt b o (l.map fun(x:Nat)=>.int .i64 x))
theorem Dh.Ab:Cp Dh:=by
 exact Z1I
def Ho (w:zN) (A:Nat) (S:zT) (R:Nat->Nat->Nat->List Nat):Prop:=
 ∃es clock,w.heap[A]? =some (.map es clock)/\∀e∈es.toList,∃i d a:Nat,e.key=Hk i d a/\Dh w S (R i d a) e.val
theorem Sj (w:zN) (S:zT) (R:Nat->Nat->Nat->List Nat) (i d a:Nat):∀(es:List MapEntry) (k:Nat),(∀e∈es,∃i d a:Nat,e.key=Hk i d a/\Dh w S (R i d a) e.val)->
  (Instr.findAsking 318 (Hk i d a) es k).run prog w=.ok none w\/∃j v,(Instr.findAsking 318 (Hk i d a) es k).run prog w=.ok (some (k+j,v)) w/\Dh w S (R i d a) v/\∃e,es[j]? =some e/\e.key=Hk i d a
 | [],k,_=>.inl rfl
 | e::es,k,h=>by
  obtain⟨j,f,b,A,G⟩:=h e Zey;simp only[Instr.findAsking,Zgv,A,Ald,Zgu];by_cases D:i=j/\d=f/\a=b
  ·obtain⟨rfl,rfl,rfl⟩:=D
   simp only[decide_true,Zia,Zgw];exact .inr ⟨0,e.val,rfl,G,e,rfl,A⟩
  ·simp only[D,decide_false,Zbd,Zhz]
   rcases Sj w S R i d a es (k+1) (fun x F=>h x (Zex _ F))with h1 | ⟨H,v,h1,h2,J,h3,h4⟩
   ·exact .inl h1
   ·exact .inr ⟨H+1,v,by rw[h1];congr 3;omega,h2,J,by simpa using h3,h4⟩
theorem Abu (w:zN) (k:Value) (es:List MapEntry) (A:∃i d a:Nat,k=Hk i d a):(Instr.findKey 318 k es).run prog w=(Instr.findAsking 318 k es 0).run prog w:=by
 obtain⟨f0,f1,f2,hu,-⟩:=Oh;obtain⟨i,d,a,rfl⟩:=A;simp only[Instr.findKey,Zgv,Zig hu,Zgu];cases es with
 | nil=>rfl
 | cons e es=>
  have:Instr.findNow (.struct #[f0,f1,f2]) (Hk i d a) (e::es) 0=none:=by
   simp[Instr.findNow,Instr.sameNow]
  rw[this]
theorem Vc (w:zN) (A:Nat) (S:zT) (R:Nat->Nat->Nat->List Nat) (h:Ho w A S R) (i d a:Nat):
  ∃v ok,(Instr.lookup 276 (.map (some A)) (Hk i d a) true).run prog w=.ok (.tuple #[v,.bool ok]) w/\(ok=true->Dh w S (R i d a) v):=by
 obtain⟨es,clock,U,he⟩:=h
 obtain⟨D,F,hm,H,J⟩:∃D F,prog.underlying 276=some (.map D F)/\D=318/\F=160:=by
  have h:(prog.underlying 276).map (fun d=>match d with | .map k e=>some (k,e) | _=>none)=some (some (318,160)):=yG;cases G:prog.underlying 276 with
  | none=>rw[G]at h;cases h
  | some d=>
   rw[G]at h;cases d with
   | map k e=>simp only[Zaj,Zbb,Zgr]at h;exact⟨k,e,rfl,h.1,h.2⟩
   | _=>simp at h
 subst H J
 have M:(zeroValue 160).run prog w=.ok (.slice none 0 0) w:=yG
 have O:(getObj A).run prog w=.ok (.map es clock) w:=by simp[getObj,Sem.run,U]
 simp only[Instr.lookup,Zgv,Zig hm,Zgu,O,Zgw,Tw,Abu w _ _ ⟨i,d,a,rfl⟩]
 rcases Sj w S R i d a es.toList 0 he with h1 | ⟨j,v,h1,h2,-⟩
 ·exact⟨.slice none 0 0,false,by simp only[h1,Zgu,Zgv,M,Zgw,Zia],yF⟩
 exact⟨v,true,by simp only[h1,Zgu,Zgv,Zgw,Zia],fun _=>h2⟩
theorem Akj (n i d a:Nat):Instr.sameBits (n+2) (Hk i d a) (Hk i d a)=true:=by
 simp[Hk,Instr.sameBits]
theorem O3 (w:zN) (A:Nat) (S:zT) (R:Nat->Nat->Nat->List Nat) (h:Ho w A S R) (i d a:Nat) (v:Value) (a0:Dh w S (R i d a) v) (a2:∀b,S b->b≠A):
  ∃o,(Instr.mapUpdate 276 (.map (some A)) (Hk i d a) v).run prog w=.ok () (w.putObj A o)/\Ho (w.putObj A o) A S R:=by
 obtain⟨es,clock,U,he⟩:=h
 obtain⟨V,Y,hm,a5,a6⟩:∃V Y,prog.underlying 276=some (.map V Y)/\V=318/\Y=160:=by
  have h:(prog.underlying 276).map (fun d=>match d with | .map k e=>some (k,e) | _=>none)=some (some (318,160)):=yG;cases F:prog.underlying 276 with
  | none=>rw[F]at h;cases h
  | some d=>
   rw[F]at h;cases d with
   | map k e=>simp only[Zaj,Zbb,Zgr]at h;exact⟨k,e,rfl,h.1,h.2⟩
   | _=>simp at h
 subst a5 a6
 have a1:A<w:=(Zbx.1 U).1
 have a9:(getObj A).run prog w=.ok (.map es clock) w:=by simp[getObj,Sem.run,U]
 have a3:∀o,(setObj A o).run prog w=.ok () (w.putObj A o):=fun o=>by simp[setObj,Sem.run,U,World.putObj]
 have aa:∀(o:Obj) (j:Nat) (u:Value),Dh w S (R i d a) u->Dh (w.putObj A o) S (R i d a) u:=fun o j u hu=>Dh.Ab.block hu fun b W=>Zhj (a2 b W)
 have G:∀(o:Obj) (l:List Nat) (u:Value),Dh w S l u->Dh (w.putObj A o) S l u:=fun o l u hu=>Dh.Ab.block hu fun b W=>Zhj (a2 b W)
 simp only[Instr.mapUpdate,Zgv,Zig hm,Zgu,a9,Tw,Abu w _ _ ⟨i,d,a,rfl⟩]
 rcases Sj w S R i d a es.toList 0 he with h1 | ⟨j,u,h1,h2,a7,h3,h4⟩
 ·refine⟨.map (es.push {key:=Hk i d a,val:=v,born:=clock}) (clock+1),by simp only[h1,Zgu,a3],_,_,Zhk a1,fun x D=>?_⟩
  simp only[Array.toList_push,Zew,Zbf]at D;rcases D with D | rfl
  ·obtain⟨M,J,H,O,T⟩:=he x D
   exact⟨M,J,H,O,G _ _ _ T⟩
  exact⟨i,d,a,rfl,G _ _ _ a0⟩
 have a4:(es[0+j]?.map (·.key)).getD (Hk i d a)=Hk i d a:=by
  rw[Zac];have:es[j]? =some a7:=by rw[<-Array.getElem?_toList];exact h3
  rw[this];exact h4
 have a8:(Instr.keyThatStays (Hk i d a) (Hk i d a)).run prog w=.ok (Hk i d a) w:=by
  have:=Akj 9998 i d a;simp only[Instr.keyThatStays];rw[if_pos this];rfl
 refine⟨.map (es.modify (0+j) fun e=>{e with key:=Hk i d a,val:=v}) clock,by simp only[h1,Zgu,Zgv,a4,a8,a3],_,_,Zhk a1,fun x D=>?_⟩
 obtain⟨q,F,rfl⟩:=Zem D
 simp only[Array.getElem_toList,Array.getElem_modify]
 have ab:q<es.size:=by simpa using F
 split
 ·exact⟨i,d,a,rfl,G _ _ _ a0⟩
 obtain⟨M,J,H,O,T⟩:=he es[q] yF
 exact⟨M,J,H,O,G _ _ _ T⟩
theorem Ho.move {w w':zN} {A:Nat} {S S':zT} {R:Nat->Nat->Nat->List Nat} (h:Ho w A S R) (U:w'.heap[A]? =w.heap[A]?) (D:∀b,S b->w'.heap[b]? =w.heap[b]?) (F:∀b,S b->S' b):Ho w' A S' R:=by
 obtain⟨es,clock,h1,h2⟩:=h;refine⟨es,clock,U.trans h1,fun e he=>?_⟩;obtain⟨i,d,a,G,H⟩:=h2 e he;exact⟨i,d,a,G,Dh.Ab.wide (Dh.Ab.block H D) F⟩
theorem Ho.lt {w:zN} {A:Nat} {S:zT} {R:Nat->Nat->Nat->List Nat} (h:Ho w A S R):A<w:=by
 obtain⟨es,clock,h1,-⟩:=h;exact(Zbx.1 h1).1
end
section
open Tryz Go.RowKit
section
variable {P:Program}
def Wu (P:Program) (gf:Nat) (lb:Array Value) (N:Nat) (ok:Nat->Array Value->World->Prop) (Kp:World->World->Prop) (Cl:World->World->World->Prop) (w:zN):Prop:=
 ∀(m l:Nat) (D:Nat->World->Prop) (F:World->Prop) (W:zN),Below w w W->w.heap.size+2=W->(∀k,At W (D k))->At W F->(∀k X A,D k X->Cl W X A->D k A)->
  (∀k X args,k<N->ok k args X->D k X->YieldAt Fence.wide (m - 1) P l args X fun e A=>(e=.returned (.bool true)/\D (k+1) A/\Kp X A)\/(e=.returned (.bool false)/\F A/\Kp X A))->
  D 0 W->CallsIn Fence.wide m P gf (#[.func (.yield l) #[] #[]]++lb) W fun e G=>(∃v,e=.returned v)/\(D N G\/F G)
theorem Vf {g:Operand} {V:Array Tmp} {assign body:Code} {Q:Exit->Act->World->Prop} {a:Act} {w:zN} {n:Nat}
  {gf:Nat} {lb:Array Value} (ar:a.eval g=.func (.func gf) #[] lb) (ad:∀args w,(callFunc gf args).run P w=.ok (.enter gf args) w)
  {N:Nat} {ok:Nat->Array Value->World->Prop} {Kp:World->World->Prop} {Cl:World->World->World->Prop} (hit:Wu P gf lb N ok Kp Cl w) (ag:∀k args X,ok k args X->args.size=V.size)
  (D:∀ {A B C:zN},Kp A B->Kp B C->Kp A C) (G:∀(W:zN) (l:Nat) (o af:Obj),w.heap.size<=l->l<w.heap.size+2->W.heap[l]? =some o->o.isCells=false->Kp W (W.putObj l af))
  (I:Nat->World->Prop) (a1:Code->World->Prop) (hI:∀k,At w (I k)) (hC:∀(k:Nat) (W X F:zN),W.heap.size=w.heap.size+2->I k X->Cl W X F->I k F)
  (hCo:∀(W X F:zN) (b:Nat) (o:Obj),W.heap.size=w.heap.size+2->w.heap.size<=b->b<w.heap.size+2->X.heap[b]? =some o->Cl W X F->F.heap[b]? =some o) (w4:∀c,At w (a1 c)) (h0:I 0 w)
  (a4:Nat->Act->World->Prop) (hAx:∀k ak,At w (a4 k ak))
  (a9:∀(l k:Nat) (args:Array Value) (W:zN) (K:Act->World->Prop),k<N->I k W->ok k args W->(∀ak U,KeepsFrom w W U->Kp W U->I k U->a4 k ak U->K ak U)->
   assign.wpIn (Fence.wide.inRound l) (n - 1 - 1) P (Exit.then K (fun _ _ _=>False)) {tmps:=(V.zip args).foldl (fun t (p,v)=>t.setIfInBounds p v) a.tmps,defers:=[]} W)
  (bkt:∀(l k:Nat) (ak:Act) (W:zN),k<N->w.heap.size<=l->I k W->a4 k ak W->body.wpIn (Fence.wide.inRound l) (n - 1 - 1) P (Ui w Kp (I (k+1)) a1 W) ak W)
  (kO:∀(W:zN),I N W->W.heap[w.heap.size]? =some (.deferred (some []))->Q .normal {a with defers:={target:=.collected w,args:=#[]}::a.defers} W)
  (bmf:∀(c:Code) (W:zN),a1 c W->W.heap[w.heap.size]? =some (.deferred (some []))->c.wpIn Fence.wide n P Q {a with defers:={target:=.collected w,args:=#[]}::a.defers} W):
  (Code.rangeFunc g V assign body).wpIn Fence.wide n P Q a w:=by
 have ac:Fence.wide.depth.isSome=true->1<=n:=fun h=>yT
 refine wpIn_rangeFunc fun fn a8=>?_
 let la:LoopState->Option Code->Loop:=fun st ab=>{state:=st,pending:=ab,fn,tmps:=a.tmps,params:=V,assign,body,defers:=w.heap.size}
 let km:=(w.alloc (.deferred (some []))).alloc (.loop (la .ready none))
 refine Z0D ?_
 intro bjp bjo aa oz
 refine⟨w.heap.size+1,[{target:=.collected w,args:=#[]}],km,{target:=.fn (.func gf) lb,args:=#[.func (.yield (w.heap.size+1)) #[] #[]]},km,gf,
  #[.func (.yield (w.heap.size+1)) #[] #[]]++lb,km,run_enterLoop_outer _ _ _ _ _,?_,fun _ _=>trivial,?_,ac,?_⟩
 ·simp only[resolve,ar]
  simp[go_sem]
 ·simp[invoke,go_sem,ad]
 refine Z3B ?_
 intro aX
 refine(hit (n - 1) (w.heap.size+1)
  (fun k W=>I k W/\W.heap[w.heap.size+1]? =some (.loop (la .ready none))/\W.heap[w.heap.size]? =some (.deferred (some [])))
  (fun W=>∃c,a1 c W/\W.heap[w.heap.size+1]? =some (.loop (la .done (some c)))/\W.heap[w.heap.size]? =some (.deferred (some [])))
  km aa yE (fun k=>((hI k).mono aa.size).and ((aX _ _ yE).and (aX _ _ yE)))
  (fun A C row h ar a6=>by
   obtain⟨c,h1,h2,h3⟩:=h;exact⟨c,((w4 c).mono aa.size) A C row h1 ar a6,aX _ _ yE A C row h2 ar a6,aX _ _ yE A C row h3 ar a6⟩)
  (fun k X F ⟨h1,h2,h3⟩ a2=>⟨hC k km X F oz h1 a2,hCo km X F _ _ oz yE yE h2 a2,hCo km X F _ _ oz yE yE h3 a2⟩)
  ?_ ⟨(hI 0).new ((hI 0).new h0 _) _,bjp,bjo⟩).mono ?_
 ·rintro k X args a7 a5 ⟨ae,be,c1⟩
  refine⟨fn,_,assign,body,run_yield (P:=P) (args:=args) be (ag k args X a5),roundIn_of_wpIn a8 (a9 _ k args X _ a7 ae a5 ?_)⟩;intro ak bak bbl a0 bld bkm;refine Z3M ?_;intro qy bl4 ao;refine⟨_,run_beginRound qy rfl,?_⟩
  let o7:=bak.putObj (w.heap.size+1) (.loop {la .ready none with state:=.busy})
  refine Z2Q ?_;intro yb iM;refine Z4k ?_;intro fin;rintro e a3 kc hp;cases e with
  | normal=>
   obtain⟨ib,H,J⟩:=hp;obtain⟨a6,l3,M,T⟩:=fin none kc ib;exact⟨_,_,a6,.inl ⟨rfl,⟨(hI _).put J yE l3 rfl _,M,T⟩,D a0 (D (D (G _ _ _ _ yE yE qy rfl) H) (G _ _ _ _ yE yE l3 rfl))⟩⟩
  | ret=>
   obtain⟨ib,H,J⟩:=hp;obtain⟨a6,l3,M,T⟩:=fin (some .ret) kc ib;exact⟨_,_,a6,.inr ⟨rfl,⟨.ret,(w4 _).put J yE l3 rfl _,M,T⟩,D a0 (D (D (G _ _ _ _ yE yE qy rfl) H) (G _ _ _ _ yE yE l3 rfl))⟩⟩
  | exit id=>
   obtain⟨ib,H,J⟩:=hp;obtain⟨a6,l3,M,T⟩:=fin (some (.exit id)) kc ib;exact⟨_,_,a6,.inr ⟨rfl,⟨.exit id,(w4 _).put J yE l3 rfl _,M,T⟩,D a0 (D (D (G _ _ _ _ yE yE qy rfl) H) (G _ _ _ _ yE yE l3 rfl))⟩⟩
  | goto t=>
   obtain⟨ib,H,J⟩:=hp;obtain⟨a6,l3,M,T⟩:=fin (some (.goto t)) kc ib;exact⟨_,_,a6,.inr ⟨rfl,⟨.goto t,(w4 _).put J yE l3 rfl _,M,T⟩,D a0 (D (D (G _ _ _ _ yE yE qy rfl) H) (G _ _ _ _ yE yE l3 rfl))⟩⟩
  | panic ah=>exact hp.elim
  | outgrown=>exact hp.elim
 exact Z2M
end
structure Kept (an:Nat) (R:Nat->Nat->Nat->List Nat) (O:zT) (X cn:zN):Prop where
 os:cn.os=X.os
 tape:cn.tape=X.tape
 output:cn.output=X.output
 size:X.heap.size<=cn
 block:∀b,b<X.heap.size->b≠an->¬O b->cn.heap[b]? =X.heap[b]?
 I5:∀S:Nat->Prop,(∀b,S b->b<X.heap.size/\b≠an/\¬O b)->Ho X an S R->Ho cn an (fun b=>S b\/(X.heap.size<=b/\b<cn.heap.size/\¬O b)) R
section
variable {an:Nat} {R:Nat->Nat->Nat->List Nat} {O btu:zT} {X Y Z:zN}
theorem Kept.trans (h:Kept an R O X Y) (k:Kept an R O Y Z) (hm:an<X):Kept an R O X Z where
 os:=k.os.trans h.os
 tape:=k.tape.trans h.tape
 output:=k.output.trans h.output
 size:=Zag h.size k.size
 block b U H G:=(k.block b (Zal U h.size) H G).trans (h.block b U H G)
 I5 S F M:=by
  have h1:=h.I5 S F M;have T:=k.size;have J:=h.size;have h2:=k.I5 _ (fun b U=>by
   rcases U with U | ⟨U,D,A⟩
   ·exact⟨Zal (F b U).1 J,(F b U).2⟩
   exact⟨D,yE,A⟩) h1
  refine h2.move rfl (fun _ _=>rfl) fun b U=>?_
  rcases U with(U | ⟨U,D,A⟩) | ⟨U,D,A⟩
  ·exact .inl U
  ·exact .inr ⟨U,yE,A⟩
  exact .inr ⟨yE,D,A⟩
theorem Kept.Gz (h:Kept an R O X Y) (h1:∀b,O b->btu b) (h2:∀b,X.heap.size<=b->btu b->O b):Kept an R btu X Y where
 os:=h.os
 tape:=h.tape
 output:=h.output
 size:=h.size
 block b U G F:=h.block b U G fun A=>F (h1 b A)
 I5 S D H:=(h.I5 S (fun b U=>⟨(D b U).1,(D b U).2.1,fun A=>(D b U).2.2 (h1 b A)⟩) H).move rfl (fun _ _=>rfl) fun b U=>U.imp id fun U=>⟨U.1,U.2.1,fun A=>U.2.2 (h2 b U.1 A)⟩
theorem Kept.out (h:Kept an R O X Y) (F:∀b,O b->X.heap.size<=b):Kept an R (fun _=>False) X Y where
 os:=h.os
 tape:=h.tape
 output:=h.output
 size:=h.size
 block b U G _:=h.block b U G fun D=>by have:=F b D;omega
 I5 S A H:=(h.I5 S (fun b U=>⟨(A b U).1,(A b U).2.1,fun D=>by have:=F b D;have:=(A b U).1;omega⟩) H).move rfl (fun _ _=>rfl) fun b U=>U.imp id fun U=>⟨U.1,U.2.1,fun h=>h⟩
theorem Kept.By {m:Nat} (h:Below m X Y) (hm:X<=m) (F:an<X):Kept an R O X Y where
 os:=h.os
 tape:=h.tape
 output:=h.output
 size:=h.size
 block b U _ _:=h.block b yE
 I5 S A D:=D.move (h.block an yE) (fun b U=>h.block b (by have:=(A b U).1;omega)) fun b U=>.inl U
theorem Kept.refl (A:an<X):Kept an R O X X:=Kept.By (Zai _ _) (Zab _) A
theorem Kept.G0 {r:Nat} (h:X.grownBy Y (some r)) (A:O r) (G:r≠an) (J:an<X):Kept an R O X Y where
 os:=h.os
 tape:=h.tape
 output:=h.output
 size:=h.size
 block b U _ F:=h.block b U (fun e=>by cases e;exact F A)
 I5 S D H:=H.move (h.block an J (fun e=>by cases e;exact G rfl)) (fun b U=>h.block b (D b U).1 (fun e=>(D b U).2.2 (by cases e;exact A))) fun b U=>.inl U
theorem Ho.B8 {B:Nat} {S:zT} (hm:an<B):At B fun w=>Ho w an S R:=fun A C row h F D=>by
 obtain⟨es,clock,h1,h2⟩:=h;refine⟨es,clock,(F.block an (Zbx.1 h1).1 (fun e=>by have:=(D an e.symm).1;omega)).trans h1,fun e he=>?_⟩;obtain⟨i,d,a,G,H⟩:=h2 e he;exact⟨i,d,a,G,Dh.Ab.B8 (B:=B) A C row H F D⟩
theorem Kept.B8 {B:Nat} {w:zN} (T:w<=B) (hm:an<w):At B fun X=>Kept an R O w X:=by
 intro A C row h D F;constructor
 ·exact D.os.trans h.os
 ·exact D.tape.trans h.tape
 ·exact D.output.trans h.output
 ·exact Zag h.size D.size
 ·intro b U J H
  exact(D.block b (Zal U h.size) (fun e=>by have:=(F b e.symm).1;omega)).trans (h.block b U J H)
 intro S G M;exact(Ho.B8 (B:=B) yE A C row (h.I5 S G M) D F).move rfl (fun _ _=>rfl) fun b U=>U.imp id fun U=>⟨U.1,Zal U.2.1 D.size,U.2.2⟩
end
end
end Go.Proofs.YtafmoofknjncpaaGreatDoor
