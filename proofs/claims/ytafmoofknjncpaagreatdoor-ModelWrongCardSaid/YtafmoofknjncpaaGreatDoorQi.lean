/- A part of the proof that ModelWrong holds: its theorems stand as they are typed. -/
import Derived.Maps.OwnIn
import Derived.Test.YtafmoofknjncpaaGreatDoorF
import Derived.Test.YtafmoofknjncpaaGreatDoorQa
set_option linter.all false
set_option maxRecDepth 100000
set_option maxHeartbeats 8000000
namespace Go.Proofs.YtafmoofknjncpaaGreatDoor
section
open Tryz Go.RowKit Go.Shelf
attribute [local go_sem] Oper.semAt_some
theorem K4 {P:Program} {F:Fence} {M:Nat} {α:Type} {I:World->(Nat->Prop)->α->List Value->Prop} (hI:Cp I) {ops:Array Oper} {rest:List Oper} {o:Oper} {a:Act} {Q:Exit->Act->World->Prop} {w:zN} (a8:o.guard=none) (s x:Operand) (t:TypeId)
  (a4:o.op=.call {callee:=.builtin .append,args:=#[s,x],argTypes:=#[t,t]})
  (lo:Nat) (e:TypeId) (K bytes:Nat) (a6:P.underlying t=some (.slice e)) (ae:(P.info? e).map (fun i=>(i.size,i.bytes,i.zero.map fun z=>z.cells.size))=some (K,bytes,some K)) (J:0<K)
  (l:List α) (v:Value) (a1:a.eval s=v) (H:Au I lo e K w l v) (y:α) (cs:zP) {G:Nat} (Y:a.eval x=.slice (some ⟨G,0,none⟩) 1 1) (aa:G=w)
  (hy:I w (fun b=>b<w/\some b≠v.ownBlock) y cs) (a2:cs=K) (h1:∀u∈cs,u.oneCell'=true)
  (h63:l.length+1<=maxLen) (W:(l.length+1)*bytes<=140737488355328) (ij:lo<=w)
  (h:∀ak ax w',Au I lo e K w' (l++[y]) (.slice ak (l+1) ax)->l.length+1<=ax->Below lo w w'->w.grownBy w' v.ownBlock->w.heap.size<w'.heap.size->((Value.slice ak (l+1) ax).ownBlock=v.ownBlock\/∃g,(Value.slice ak (l+1) ax).ownBlock=some g/\w.heap.size<=g)->wpListIn F M P ops Q rest (a.put o.dst (.slice ak (l+1) ax)) w'):
  wpListIn F M P ops Q (o::rest) a (w.alloc (.cells cs.toArray e)):=by
 subst aa
 obtain⟨ai,g1,g2,g3⟩:=H
 obtain⟨i,z,a9,A,a5,a0,ab⟩:∃i z,P.info? e=some i/\i.zero=some z/\i.size=K/\i.bytes=bytes/\z.cells.size=K:=by
  cases hp:P.info? e with
  | none=>rw[hp]at ae;cases ae
  | some i=>
   rw[hp]at ae;simp only[Zaj,Zbb,Zgr]at ae;cases A:i.zero with
   | none=>rw[A]at ae;simp at ae
   | some z=>rw[A]at ae;exact⟨i,z,rfl,A,ae.1,ae.2.1,uH⟩
 have T:=g1.below (Bq w (.cells cs.toArray e)) (Zab _)
 refine wpListIn_append_own_at (w:=w.alloc (.cells cs.toArray e)) a8 s x t a4 lo e i z K bytes a6 a9 A a5 a0 ab J v ai ai.flatten a1 T.1 ⟨w,0,none⟩ 1 1 cs Y yE (Ra w cs e) h1 yE (by rw[g2];exact W) yJ ?_
 intro ac w' q1 O _ i3
 have hb:=T.snoc a2 q1
 obtain⟨ak,ax,rfl,aw⟩:=hb.shape
 have hlen:(ai++[cs]).length=l.length+1:=by simp[g2]
 have dr:w.grownBy w' v.ownBlock:=Bn (Zhf w _ _) O
 have a3:=O.size
 rw[Zaq]at a3
 refine Z37 ?_
 intro zy
 have zw:∀(y:α) (D:zP),I w (fun b=>b<w/\some b≠v.ownBlock) y D->I w' (fun b=>b<w'.heap.size/\some b≠(Value.slice ak (ai++[cs]).length ax).ownBlock) y D:=fun y D a7=>
  hI.wide (hI.block a7 fun b U=>dr.block b U.1 U.2) fun b U=>⟨yE,by
   rcases zy with e | ⟨g,e,H⟩
   ·rw[e];exact U.2
   rw[e];intro V;injection V with V;omega⟩
 exact Z12
theorem Al1 {w:zN} {lo:Nat} {i:Nat} {v:Value} (h:Au Di lo 3 1 w [(i:Int)] v):Dh w (fun b=>lo<=b/\b<w) [i] v:=by
 obtain⟨F,h1,h2,h3⟩:=h;obtain⟨a,c,rfl,A⟩:=h1.shape;rw[h2]at A|-;refine⟨a,c,rfl,A,.inr ?_⟩;rcases h1.at_ with h0 | ⟨g,O,G,M,H,D⟩
 ·rw[h0]at h2;simp at h2
 cases G;have h4:=h3 0 yF (by rw[h2];simp);have h5:=D 0 (by rw[h2];simp);have J:F[0]'(by rw[h2];simp)=[.int .i64 (i:Int)]:=h4;rw[J,Zgl,Zaf]at h5;exact⟨g,0,rfl,⟨M,H⟩,h5⟩
theorem Zw (G:Nat) (R:Nat->Nat->Nat->List Nat) (gf:Nat) (lb:Array Value) (aB:∀args w,(callFunc gf args).run prog w=.ok (.enter gf args) w) (l:List Nat) (an:l.length<=1) (w:zN) (hm:G<w.heap.size)
  (hit:∀X,Below w w X->Wu prog gf lb l (fun k args Y=>(∃i:Nat,l[k]? =some i/\args=#[.int .i64 i])/\X.heap.size+4<=Y.heap.size) (KeepsFrom (X.heap.size+2)) (fun W=>Kept G R (fun b=>W<=b/\b<W+2)) X):
  Calls prog 240 #[zH,.func (.func gf) #[] lb] w fun e w'=>∃v,e=.returned v/\Dh w' (fun b=>w.heap.size<=b/\b<w') l v/\Kept G R (fun _=>False) w w':=by
 obtain⟨F,a2,aC,a6,aO⟩:=Bx w [zH] 160
 have ae:=Zaa a2
 have aq:=Zaa (hit F a6)
 clear a2 hit
 refine Z4f ?_
 refine Zhp func240 rfl trivial ?_ rfl
 simp only[ntmps240,Zfk,Zao,Zav,Nat.reduceAdd,Nat.reduceSub,Zcb,Zcc,Zff,Zdl,Zau,Zas]
 refine Zii.2 ?_
 go_upto_region 1 with fail
 have a2:=ae.out
 rw[a2]
 clear a2 ae
 go_wp2_with fail
 have ay:Kept G R (fun b=>b=w.heap.size\/b=w.heap.size+3\/b=w.heap.size+4) w F:=Kept.By a6 (Zab _) hm
 have ai:∀(a7:Array Value) (v:Value) (X:zN),Dh X (fun b=>w.heap.size<=b/\b<X.heap.size) l v->Kept G R (fun b=>b=w.heap.size\/b=w.heap.size+3\/b=w.heap.size+4) w X->X.heap[F.heap.size]? =some (.deferred (some []))->
   a7.getD 4 undef=v->
   LeavesInM Fence.wide 5 prog f240 a7 (fun e a4=>∃v,e=Ending.returned v/\Dh a4 (fun b=>w.heap.size<=b/\b<a4) l v/\Kept G R (fun _=>False) w a4) (marks [F.heap.size]) .returning X:=fun a7 v X h1 h2 h4 h5=>
  Fy (B:=F.heap.size) (Z:=fun W=>Dh W (fun b=>w.heap.size<=b/\b<W) l v/\Kept G R (fun b=>b=w.heap.size\/b=w.heap.size+3\/b=w.heap.size+4) w W) (fun A C row ⟨av,U⟩ H M=>⟨Dh.Ab.wide (Dh.Ab.B8 (B:=F.heap.size) A C row av H M) (fun b U=>⟨U.1,Zal U.2 H.size⟩),Kept.B8 (B:=F.heap.size) yE hm A C row U H M⟩)
   (fun a4 h=>⟨_,results_tmp rfl _ _ _,v,by rw[h5],h.1,h.2.out (fun b U=>yE)⟩) [F.heap.size] X yF (fun D fM=>tU) ⟨h1,h2⟩
 refine(Zii (n:=5)).1 (Vf (gf:=gf) (lb:=lb) rfl aB (N:=l.length) (ok:=fun k args Y=>(∃i:Nat,l[k]? =some i/\args=#[.int .i64 i])/\F.heap.size+4<=Y) (Kp:=KeepsFrom (F+2)) (Cl:=fun W=>Kept G R (fun b=>W<=b/\b<W+2))
  aq.out (fun k args X ⟨⟨i,_,e⟩,_⟩=>yS) (fun h k=>h.trans k) (fun W l o aF h1 h2 h3 h4=>Zda (Zhx W l aF) (fun j e=>yM))
  (fun k X=>((k=0/\Ar X w 160 [zH])\/(k=1/\∃v,Ar X w 160 [v]/\Dh X (fun b=>w.heap.size+5<=b/\b<X.heap.size) l v))/\Kept G R (fun b=>b=w.heap.size\/b=w.heap.size+3\/b=w.heap.size+4) w X)
  (fun c X=>False)
  ?hI ?hC ?hCo (fun c A C row h _ _=>h.elim) ⟨.inl ⟨rfl,aC⟩,ay⟩
  (fun k T X=>(∃(i:Nat) (v0 v1 v3 v4 v6 v7 v8 v9 v10 v11 v12:Value),l[k]? =some i/\T={tmps:=#[v0,v1,.pointer (some ⟨w,0,none⟩),v3,v4,.int .i64 (i:Int),v6,v7,v8,v9,v10,v11,v12],defers:=[]})/\F.heap.size+4<=X.heap.size)
  (fun k T A C row h H M=>⟨h.1,Zag h.2 H.size⟩) ?assign ?body ?done ?stop)
 case hI=>
  rintro k A C row ⟨h,O⟩ H M;refine⟨?_,Kept.B8 (B:=F.heap.size) yE hm A C row O H M⟩;rcases h with⟨h1,h2⟩ | ⟨h1,v,h2,h3⟩
  ·exact .inl ⟨h1,Ar.B8 A C row h2 H M⟩
  exact .inr ⟨h1,v,Ar.B8 A C row h2 H M,Dh.Ab.wide (Dh.Ab.B8 (B:=F.heap.size) A C row h3 H M) (fun b U=>⟨U.1,Zal U.2 H.size⟩)⟩
 case hC=>
  rintro k W X ab ap ⟨h,O⟩ V;have al:w.heap.size<X.heap.size:=by rcases h with⟨_,h⟩ | ⟨_,v,h,_⟩<;>exact h.lt
  refine⟨?_,O.trans (V.Gz (fun b U=>yE) (fun b U aj=>yE)) hm⟩;have a9:ab.heap[w.heap.size]? =X.heap[w.heap.size]? :=V.block _ al yE yE;rcases h with⟨h1,h2⟩ | ⟨h1,v,h2,h3⟩
  ·exact .inl ⟨h1,h2.C4 a9⟩
  exact .inr ⟨h1,v,h2.C4 a9,Dh.Ab.wide (Dh.Ab.block h3 fun b U=>V.block b U.2 yE yE) fun b U=>⟨U.1,Zal U.2 V.size⟩⟩
 case hCo=>
  rintro W X ab b o ap a6 aj aa V;exact(V.block b (Zbx.1 aa).1 yE yE).trans aa
 case assign=>
  rintro aA k args X aL aG hI ⟨⟨i,a0,rfl⟩,ad⟩ am;refine Z0y ?_;gi_wp2_with fail
  exact am _ _ (Zdb _ _) (Zdb _ _) hI ⟨⟨i,_,_,_,_,_,_,_,_,_,_,_,a0,rfl⟩,ad⟩
 case body=>
  rintro aA k T X aG aS ⟨h,O⟩ ⟨⟨i,v0,v1,v3,v4,v6,v7,v8,v9,v10,v11,v12,a0,rfl⟩,ad⟩;obtain rfl:k=0:=yE;rcases h with⟨-,J⟩ | ⟨h1,_⟩
  rotate_left
  ·cases h1
  have hle:l=[i]:=by
   match l,a0,an with
   | [x],a0,_=>simpa using a0
  have ac:=J.cell (j:=0) rfl;have f0:=J.frozen 0;have aN:=J.lt;have aK:¬w.heap.size=X.heap.size:=yE;have aH:¬w.heap.size=X.heap.size+1:=yE;have aI:¬X.heap.size=w.heap.size:=yE;have aP:¬X.heap.size+1=w.heap.size:=yE;gi_wp2_with (gi_at_builtin;go_loud (refine K4 Di.Ab rfl _ _ 160 rfl X.heap.size 3 1 8 Hs Ie yH [] (.slice none 0 0) rfl (Au.nil Di X X 3 1) (i:Int) [i] rfl rfl rfl rfl yL (by simp[maxLen]) yF (Zab _) ?_;intro T a3 a1 aE aQ ao ah aR aJ;have a8:=J.grown ah wO;have aM:=Ar.cell (j:=0) a8 rfl;have f6:=Ar.frozen a8 0))
  have ar:=Al1 aE;have a5:=As a1 w 0 (.slice T 1 a3);have aw:=a8.set 0 (.slice T 1 a3);have ax:Kept G R (fun b=>b=w.heap.size\/b=w.heap.size+3\/b=w.heap.size+4) X a1:=Kept.By ao (Zab _) yE;have az:Kept G R (fun b=>b=w.heap.size\/b=w.heap.size+3\/b=w.heap.size+4) a1 (a1.setCell ⟨w,0,none⟩ (.slice T 1 a3)):=Kept.G0 a5 (.inl rfl) yE yE;have ag:∀B,w.heap.size<B->KeepsFrom B X (a1.setCell ⟨w,0,none⟩ (.slice T 1 a3)):=fun B J=>(Zda ah (fun j e=>by simp[Value.ownBlock]at e)).trans (Zda a5 (fun j e=>yM))
  refine⟨ag _ yE,ag _ yE,⟨_,aw,?_⟩,(O.trans ax yE).trans az yE⟩;exact Dh.Ab.wide (Dh.Ab.block ar fun b U=>a5.block b U.2 yJ) fun b U=>⟨yE,Zal U.2 a5.size⟩
 case done=>
  rintro X ⟨h,O⟩ af;rcases h with⟨h1,J⟩ | ⟨h1,v,J,ak⟩
  ·have au:l=[]:=Zeo.1 h1
   subst au;have ac:=J.cell (j:=0) rfl;gi_wp2_with fail
   go_wp2_with fail
   have aD:Dh X (fun b=>w.heap.size<=b/\b<X.heap.size) [] (.slice none 0 0):=⟨none,0,rfl,Zab _,.inl rfl⟩;exact ai _ _ X aD O af yI
  have ac:=J.cell (j:=0) rfl;gi_wp2_with fail
  go_wp2_with fail
  exact ai _ _ X (Dh.Ab.wide ak (fun b U=>⟨yE,U.2⟩)) O af yI
 case stop=>exact fun c X h=>h.elim
end
section
open Tryz Go.RowKit Go.Shelf
attribute [local go_sem] Oper.semAt_some
theorem Qb {B A:Nat} {X Y:zN} (h:KeepsFrom B X Y) (U:B<=A):KeepsFrom A X Y:=⟨h.size,fun i o F h0 D=>h.same i o yE h0 D⟩
abbrev Aqy (A:Nat) (R:Nat->Nat->Nat->List Nat) (gf:Nat) (lb:Array Value) (l:List Nat) (X:zN):Prop:=
 Wu prog gf lb l (fun k args Y=>(∃i:Nat,l[k]? =some i/\args=#[.int .i64 i])/\X.heap.size+4<=Y) (KeepsFrom (X+2)) (fun W=>Kept A R (fun b=>W<=b/\b<W+2)) X
theorem Ael (A:Nat) (R:Nat->Nat->Nat->List Nat) (gf:Nat) (lb:Array Value) (D:∀args w,(callFunc gf args).run prog w=.ok (.enter gf args) w) (l:List Nat) (F:l.length<=1) (w:zN) (hm:A<w.heap.size)
  (hit:∀X,Below w w X->Aqy A R gf lb l X):
  Calls prog 214 #[.func (.func gf) #[] lb] w fun e w'=>∃v,e=.returned v/\Dh w' (fun b=>w.heap.size<=b/\b<w') l v/\Kept A R (fun _=>False) w w':=by
 have c3:=Zaa (Zw A R gf lb D l F w hm hit)
 clear hit D
 go_enter func214,ntmps214
 go_wp2_with fail
 refine Z0P ?_
 rintro e G ⟨v,rfl,h1,h2⟩
 go_wp2_with fail
 go_ret
 exact⟨v,rfl,h1,h2⟩
theorem An6 (gf:Nat) (lb:Array Value) (w:zN):
  Calls prog 215 #[.func (.func gf) #[] lb] w fun e w'=>e=.returned (.func (.func 241) #[] #[zK w])/\w.alloc (.cells [.func (.func gf) #[] lb].toArray 323)=w':=by
 go_enter func215,ntmps215
 go_wp2
 exact Z0K
theorem Arn (a2:Nat) (R:Nat->Nat->Nat->List Nat) (gf:Nat) (lb:Array Value) (b0:∀args w,(callFunc gf args).run prog w=.ok (.enter gf args) w) (l:List Nat) (ba:l.length<=1) (N:Nat) (bg:N<=1) (aW:N=0->l=[]) (aq:Nat) (w:zN) (hm:a2<w.heap.size) (an:Ar w aq 323 [.func (.func gf) #[] lb])
  (hit:∀X,Below w w X->Wu prog gf lb N (fun _ args Y=>∃v,args=#[v]/\Dh Y (fun b=>b<Y) l v) (fun _ _=>True) (fun _=>Kept a2 R (fun _=>False)) X):
  Aqy a2 R 241 #[zK aq] l w:=by
 intro m al J aa W ad bm a7 aC ac aU h0
 have aP:=an.lt
 have ar:=an.below ad aP
 obtain⟨F,aE,aj,a1,a8,ax⟩:=Fk W [.func (.yield al) #[] #[]] [zH] 245 160
 have bh:=Zaa aE
 have aK:=Zaa (hit F (ad.trans (a8.mono ad.size)))
 have aQ:=(ar.below a8 ar.lt).cell (j:=0) rfl
 have aZ:J 0 F:=(a7 0).below h0 a8 (Zab _)
 clear hit
 refine Zhp func241 rfl trivial ?_ rfl
 simp only[ntmps241,Zfk,Zao,Zav,Nat.reduceAdd,Nat.reduceSub,Zcb,Zcc,Zff,Zdl,Zau,Zas]
 gi_wp2_with fail
 have b3:At W (fun T=>J l T\/aa T):=(a7 _).or aC
 have aB:∀(ay:Array Value) (X:zN),(J l X\/aa X)->X.heap[F.heap.size]? =some (.deferred (some []))->
   LeavesInM Fence.wide m prog f241 ay (fun e T=>(∃v,e=Ending.returned v)/\(J l T\/aa T)) (marks [F.heap.size]) .returning X:=fun ay X h1 h2=>
  Fy b3 (fun T hw=>⟨_,Zid rfl _ _ _,⟨_,rfl⟩,hw⟩) [F.heap.size] X yF (fun D a0=>by simp only[Zbf]at a0;subst a0;exact⟨yE,h2⟩) h1
 clear aQ
 refine Vf (gf:=gf) (lb:=lb) rfl b0 (N:=N) (ok:=fun _ args Y=>∃v,args=#[v]/\Dh Y (fun b=>b<Y) l v) (Kp:=fun _ _=>True) (Cl:=fun _=>Kept a2 R (fun _=>False))
  aK.out (fun k args X ⟨v,e,_⟩=>yS) (fun _ _=>trivial) (fun _ _ _ _ _ _ _ _=>trivial)
  (fun k X=>W.heap.size+2<=X.heap.size/\((k=0/\J 0 X/\Ar X W 245 [.func (.yield al) #[] #[]]/\Ar X (W+1) 160 [zH])\/(k=1/\J l X)))
  (fun c X=>c=.ret/\aa X)
  ?hI ?hC ?hCo (fun c A C row h G M=>⟨h.1,(aC.mono yE) A C row h.2 G M⟩) ⟨yE,.inl ⟨rfl,aZ,aj,a1⟩⟩
  (fun k H X=>∃(a5:Value) (v0 v1 v5 v6 v7 v8 v9 v10 v11 v12 v13 v14 v15 v16 v17 v18 v19 v20 v21 v22 v23 v24 v25 v26:Value),Dh X (fun b=>b<X.heap.size) l a5/\H={tmps:=#[v0,v1,.pointer (some ⟨W,0,none⟩),.pointer (some ⟨W+1,0,none⟩),a5,v5,v6,v7,v8,v9,v10,v11,v12,v13,v14,v15,v16,v17,v18,v19,v20,v21,v22,v23,v24,v25,v26],defers:=[]})
  (fun k H A C row h G M=>by
   obtain⟨a5,v0,v1,v5,v6,v7,v8,v9,v10,v11,v12,v13,v14,v15,v16,v17,v18,v19,v20,v21,v22,v23,v24,v25,v26,h1,h2⟩:=h;exact⟨a5,v0,v1,v5,v6,v7,v8,v9,v10,v11,v12,v13,v14,v15,v16,v17,v18,v19,v20,v21,v22,v23,v24,v25,v26,Dh.Ab.wide (Dh.Ab.B8 (B:=F.heap.size) A C row h1 G M) (fun b U=>Zal U G.size),h2⟩) ?assign ?body ?done ?stop
 case hI=>
  rintro k A C row ⟨V,h⟩ G M;refine⟨Zag V G.size,?_⟩;rcases h with⟨e,h1,h2,h3⟩ | ⟨e,h1⟩
  ·exact .inl ⟨e,((a7 0).mono yE) A C row h1 G M,Ar.B8 A C row h2 G M,Ar.B8 A C row h3 G M⟩
  exact .inr ⟨e,((a7 _).mono yE) A C row h1 G M⟩
 case hC=>
  rintro k aL X av aT ⟨V,h⟩ O;have ak:Kept a2 R (fun b=>W<=b/\b<W+2) X av:=O.Gz (fun b U=>U.elim) (fun b U aD=>yE);refine⟨Zag V O.size,?_⟩;rcases h with⟨e,h1,h2,h3⟩ | ⟨e,h1⟩
  ·exact .inl ⟨e,ac _ _ _ h1 ak,h2.C4 (O.block _ h2.lt yE (fun h=>h)),h3.C4 (O.block _ h3.lt yE (fun h=>h))⟩
  exact .inr ⟨e,ac _ _ _ h1 ak⟩
 case hCo=>
  rintro aL X av b o aT a8 aD ao O;exact(O.block b (Zbx.1 ao).1 yE (fun h=>h)).trans ao
 case assign=>
  rintro ag k args X bc b1 hI ⟨v,rfl,ab⟩ aF;refine Z0y ?_;gi_wp2_with fail
  exact aF _ _ (Zdb _ _) trivial hI ⟨v,_,_,_,_,_,_,_,_,_,_,_,_,_,_,_,_,_,_,_,_,_,_,_,_,ab,rfl⟩
 case body=>
  rintro ag k H X b1 bq ⟨V,h⟩ ⟨a5,v0,v1,v5,v6,v7,v8,v9,v10,v11,v12,v13,v14,v15,v16,v17,v18,v19,v20,v21,v22,v23,v24,v25,v26,ab,rfl⟩;obtain rfl:k=0:=yE;rcases h with⟨-,aw,aj,a1⟩ | ⟨h1,_⟩
  rotate_left
  ·cases h1
  obtain⟨a,c,rfl,O,aR⟩:=ab;obtain⟨L,af⟩:=zL (l.length);rw[af]at O|-;have k1:=Zaa af;have bd:L<=1:=yE;clear af;gi_wp2_with fail
  gi_loopw [11] (fun v wr=>∃j:Nat,j<=L/\v=.int .i64 j/\W.heap.size+2<=wr/\KeepsFrom F X wr/\((j=0/\wr=X)\/(j=1/\J 1 wr))) (fun v _=>L - (intOf v).toNat)
  case atStart=>exact⟨0,Zap _,rfl,V,Zdb _ _,.inl ⟨rfl,rfl⟩⟩
  case round=>
   obtain⟨j,b7,rfl,b5,aX,az⟩:=hrel;by_cases b6:j<L
   ·have bj:(j:Int) <L:=by omega
    rcases az with⟨rfl,rfl⟩ | ⟨rfl,_⟩
    rotate_left
    ·omega
    obtain⟨i,a6⟩:∃i,l=[i]:=by
     have b2:l.length=1:=wY
     match l,b2 with
     | [x],_=>exact⟨x,rfl⟩
    rcases aR with h0 | ⟨b,o,rfl,bi,ap⟩
    ·rw[h0]at a6;cases a6
    rw[a6]at ap;have am:=Zaa a6;clear a6;have d0:=ap 0 _ rfl;rw[Zaf]at d0;have cs:=a1.cell (j:=0) rfl;have aV:=Zaa (Oo none 0 [] (i:Int) wr wr yF (.inl rfl));have be:=a1.lt;gi_wp2_with fail
    refine⟨trivial,fun h=>yT,((Lw (r:=some ag)).2 aV.out).mono ?_⟩;rintro e b8 ⟨rfl,rfl⟩;simp only[Zdi];have f1:=a1.frozen 0;gi_wp2_with (gi_at_builtin;go_loud (refine K4 Di.Ab rfl _ _ 160 rfl wr.heap.size 3 1 8 Hs Ie yH [] (.slice none 0 0) rfl (Au.nil Di wr wr 3 1) (i:Int) [.int .i64 i] rfl rfl rfl rfl yL (by simp[maxLen]) yF (Zab _) ?_;intro H a3 a4 bn bk aG ai bl bb;have aA:=a1.grown ai wO;have b4:=aj.grown ai wO;have aM:=Ar.cell (j:=0) aA rfl;have f6:=Ar.frozen aA 0;have aY:=Ar.cell (j:=0) (b4.Em (b':=W.heap.size+1) yE 0 (.slice H 1 a3)) rfl))
    have ah:=As a4 (W+1) 0 (.slice H 1 a3);have bo:=ah.size;have aN:J 0 a4:=(a7 0).below aw aG (Zab _);have aO:J 0 (a4.setCell ⟨W+1,0,none⟩ (.slice H 1 a3)):=ac _ _ _ aN (Kept.G0 ah yE yE yE);have au:KeepsFrom F wr (a4.setCell ⟨W+1,0,none⟩ (.slice H 1 a3)):=(Zda ai (fun j e=>by simp[Value.ownBlock]at e)).trans (Zda ah (fun j e=>yM));clear aY aM f6 cs f1 d0;generalize a4.setCell ⟨W+1,0,none⟩ (.slice H 1 a3)=aJ at*
    obtain⟨fn,tmps,b9,body,hy,aI⟩:=aU 0 aJ #[.int .i64 i] (by rw[am.out];simp) ⟨⟨i,by rw[am.out];rfl,rfl⟩,yE⟩ aO;rw[hy];gi_wp2_with fail
    refine⟨fun h=>yT,(Jf (r:=some ag) aI).mono ?_⟩;rintro e bp (⟨rfl,aS,ae⟩ | ⟨rfl,aH,ae⟩)
    ·have a9:=Qb ae (show w.heap.size+2<=F.heap.size from yE)
     have br:=a9.size;gi_wp2_with fail
     go_roundw
     case rel=>exact⟨1,yE,yK,yE,au.trans a9,.inr ⟨rfl,aS⟩⟩
     case measure=>simp[intOf];omega
    have a9:=Qb ae (show w.heap.size+2<=F.heap.size from yE);gi_wp2_with fail
    exact⟨by rw[<-ax];exact au.trans a9,trivial,rfl,aH⟩
   obtain rfl:j=L:=by omega
   have bf:¬((j:Int) <j):=yE;gi_wp2_with fail
   refine⟨by rw[<-ax];exact aX,trivial,b5,?_⟩;rcases az with⟨h0,rfl⟩ | ⟨h1,h2⟩
   ·subst h0;exact aw
   subst h1;exact h2
 case done=>
  rintro X ⟨V,h⟩ a0;gi_wp2_with fail
  refine aB _ _ (.inl ?_) a0;rcases h with⟨e,h1,_⟩ | ⟨e,h1⟩
  ·rw[aW e];exact h1
  exact h1
 case stop=>
  rintro c X ⟨rfl,h1⟩ a0;gi_wp2_with fail
  exact aB _ _ (.inr h1) a0
end
section
open Tryz Go.RowKit
def Lu:List (Nat->List Nat)->Nat->List Nat
 | [],a=>[a]
 | f::fs,a=>match f a with
  | []=>[]
  | i::_=>Lu fs i
def Lk (s:zQ) (l:Cc) (fs:List (Nat->List Nat)) (d a:Nat):List Nat:=
 if l.kind=2 then(if a<s/\l.Q4 (s.getD a 0).toNat=true then [a+1]else [])
 else if l.kind=6 then(fs.headD fun _=>[]) a
 else if l.kind=3 then Lu (fs.drop d) a
 else []
mutual
def De (s:zQ):Rx->Nat->Nat->List Nat
 | .node l t,d,a=>Lk s l (Hl s t) d a
def Hl (s:zQ):List Rx->List (Nat->List Nat)
 | []=>[]
 | x::xs=>De s x 0::Hl s xs
end
theorem Pb (s:zQ) (t:List Rx):Hl s t=t.map fun x=>De s x 0:=by
 induction t with
 | nil=>rfl
 | cons x xs A=>simp only[Hl,Zbi,A]
theorem Amm {fs:List (Nat->List Nat)} (h:∀f∈fs,∀a,(f a).length<=1):∀a,(Lu fs a).length<=1:=by
 induction fs with
 | nil=>intro a;simp[Lu]
 | cons f fs D=>
  intro a;simp only[Lu];split
  ·simp
  exact D (fun g A=>h g (Zex _ A)) _
theorem Sn (s:zQ) (t:Rx):∀d a,(De s t d a).length<=1:=by
 refine Tree.ind (P:=fun t=>∀d a,(De s t d a).length<=1) (fun l t G d a=>?_) t;have A:∀f∈Hl s t,∀a,(f a).length<=1:=by
  rw[Pb];intro f A;obtain⟨x,D,rfl⟩:=Zfb.1 A;exact G x D 0
 simp only[De,Lk];split
 ·split<;>simp
 split
 ·cases F:Hl s t with
  | nil=>simp
  | cons f fs=>exact A f (by rw[F];exact Zey) a
 split
 ·exact Amm (fun f h=>A f (List.mem_of_mem_drop h)) a
 simp
def L4 (s:zQ) (R:Nat->Nat->Nat->List Nat) (t:Rx) (id:Nat):Prop:=
 ∀k (h:k<t.pre.length),∀d a,R (id+k) d a=De s t.pre[k] d a
theorem L4.self {s:zQ} {R:Nat->Nat->Nat->List Nat} {t:Rx} {id:Nat} (h:L4 s R t id) (d a:Nat):R id d a=De s t d a:=by
 have:=h 0 (by cases t;simp[Tree.pre]) d a;cases t with
 | node l t=>simpa[Tree.pre]using this
theorem L4.sub {s:zQ} {R:Nat->Nat->Nat->List Nat} {l:Cc} {t:List Rx} {id:Nat} (h:L4 s R (.node l t) id) {i:Nat} (F:i<t):L4 s R t[i] (id+1+Tree.Bf (t.take i)):=by
 intro k D d a;have A:=Uk t i k F D;have G:=(Zeg.1 A).1;have h1:=h (1+(Tree.Bf (t.take i)+k)) (by simp only[Tree.pre,Zao];omega) d a;have h2:(Tree.node l t).pre[1+(Tree.Bf (t.take i)+k)]? =some (t[i].pre[k]):=by
  rw[Tree.pre,show 1+(Tree.Bf (t.take i)+k)=(Tree.Bf (t.take i)+k)+1 from yE,Zae];exact A
 rw[(Zeg.1 h2).2]at h1;rw[<-h1];congr 1;omega
def Row (w:zN) (b:Nat) (cs:zP):Prop:=w.rangeAt b 0 cs
theorem Row.cell {w:zN} {b:Nat} {cs:zP} (h:Row w b cs) {j:Nat} {v:Value} (A:cs[j]? =some v):w.cell? ⟨b,j,none⟩=some v:=by
 have:=h j v A;rwa[Zac]at this
theorem Row.C4 {w w':zN} {b:Nat} {cs:zP} (h:Row w b cs) (U:w'.heap[b]? =w.heap[b]?):Row w' b cs:=Ag h U
theorem Row.drewN {w:zN} {b:Nat} {cs:zP} (h:Row w b cs) (k:Nat):Row (w.drewN k) b cs:=h.C4 yN
mutual
def Cs (w:zN) (S:zT):Rx->Nat->Nat->Value->Prop
 | .node l t,id,g,v=>∃b H J G F D,v=.pointer (some ⟨b,0,none⟩)/\S b/\
   Row w b [l.kind,l.s0,l.s1,l.s2,l.s3,l.mn,l.mx,.slice H J G,id,.int .i64 ((if l.kind=6 then g else 0:Nat):Int),.slice F t D]/\
   t.length<=D/\(t=[]\/∃A ro,F=some ⟨A,ro,none⟩/\S A/\Ee w S A ro t (id+1) (if l.kind=6 then g+1 else g))
def Ee (w:zN) (S:zT) (A:Nat):Nat->List Rx->Nat->Nat->Prop
 | _,[],_,_=>True
 | k,x::xs,id,g=>(∃v,w.cell? ⟨A,k,none⟩=some v/\Cs w S x id g v)/\Ee w S A (k+1) xs (id+x.size) (g+x.B3)
end
theorem Ee.get {w:zN} {S:zT} {A:Nat}:∀(t:List Rx) (k id g:Nat),Ee w S A k t id g->∀i (h:i<t.length),∃v,w.cell? ⟨A,k+i,none⟩=some v/\Cs w S t[i] (id+Tree.Bf (t.take i)) (g+Be (t.take i)) v
 | [],_,_,_,_,i,h=>yX
 | x::xs,k,id,g,h,0,_=>by
  simp only[Ee]at h;simpa[Tree.Bf,Be,Tree.Dw]using h.1
 | x::xs,k,id,g,h,i+1,ae=>by
  simp only[Ee]at h;obtain⟨v,h1,h2⟩:=Ee.get xs (k+1) (id+x.size) (g+x.B3) h.2 i xE;refine⟨v,by rw[<-h1];congr 2;omega,?_⟩;simp only[Zfq,Tree.Bf,C6,Zej];rw[<-Zfx,<-Zfx];exact h2
theorem Ee.Vn {w:zN} {S:zT} {A:Nat}:∀(t:List Rx) (k id g:Nat),(∀i (h:i<t.length),∃v,w.cell? ⟨A,k+i,none⟩=some v/\Cs w S t[i] (id+Tree.Bf (t.take i)) (g+Be (t.take i)) v)->Ee w S A k t id g
 | [],_,_,_,_=>by simp only[Ee]
 | x::xs,k,id,g,h=>by
  simp only[Ee];refine⟨by have:=h 0 yF;simpa[Tree.Bf,Be,Tree.Dw]using this,Ee.Vn xs _ _ _ fun i ae=>?_⟩;obtain⟨v,h1,h2⟩:=h (i+1) xE;refine⟨v,by rw[<-h1];congr 2;omega,?_⟩;simp only[Zfq,Tree.Bf,C6,Zej]at h2;rw[<-Zfx,<-Zfx]at h2;exact h2
theorem Cs.move {w w':zN} {S S':zT} (D:∀b,S b->w'.heap[b]? =w.heap[b]?) (F:∀b,S b->S' b) (t:Rx):∀id g v,Cs w S t id g v->Cs w' S' t id g v:=by
 refine Tree.ind (P:=fun t=>∀id g v,Cs w S t id g v->Cs w' S' t id g v) (fun l t H id g v h=>?_) t;simp only[Cs]at h|-;obtain⟨b,T,U,O,M,J,h1,h2,h3,h4,h5⟩:=h;refine⟨b,T,U,O,M,J,h1,F b h2,h3.C4 (D b h2),h4,h5.imp (fun h=>h) ?_⟩;rintro⟨A,ro,e,h6,h7⟩;refine⟨A,ro,e,F A h6,Ee.Vn t _ _ _ fun i G=>?_⟩;obtain⟨u,V,W⟩:=Ee.get t _ _ _ h7 i G;exact⟨u,(Zaw (a:=⟨A,_,none⟩) (D A h6)).trans V,H _ (Zat _) _ _ _ W⟩
theorem Cs.Ab (t:Rx):∀(w w':zN) (S S':zT) (id g:Nat) (v:Value),(∀b o H,S b->w.rangeAt b o H->w'.rangeAt b o H)->(∀b,S b->S' b)->Cs w S t id g v->Cs w' S' t id g v:=by
 intro w w' S S' id g v F G;revert id g v;refine Tree.ind (P:=fun t=>∀id g v,Cs w S t id g v->Cs w' S' t id g v) (fun l t M id g v h=>?_) t;simp only[Cs]at h|-;obtain⟨b,V,W,U,T,O,h1,h2,h3,h4,h5⟩:=h;refine⟨b,V,W,U,T,O,h1,G b h2,F b 0 _ h2 h3,h4,h5.imp (fun h=>h) ?_⟩;rintro⟨D,ro,e,h6,h7⟩;refine⟨D,ro,e,G D h6,Ee.Vn t _ _ _ fun i J=>?_⟩;obtain⟨u,Y,a0⟩:=Ee.get t _ _ _ h7 i J;refine⟨u,?_,M _ (Zat _) _ _ _ a0⟩;have:=F D (ro+i) [u] h6 (fun j v A=>by
  match j,A with
  | 0,A=>simp only[Zad,Zbb]at A;subst A;exact Y) 0 u rfl
 rwa[Zaf]at this
structure Fin (w:zN) (an fb:Nat) (gr:zT) (s:zQ) (bq:zO) (bb:Nat) (l5:Int) (eg:Value):Prop where
 box:Ar w fb 278 [.slice bq s bb,l5,eg,.map (some an)]
 str:Dr w gr s (.slice bq s bb)
 ns:∀b,gr b->b<w.heap.size/\b≠an
 fb:gr fb
theorem Fin.move {w w':zN} {F fb:Nat} {A:zT} {s:zQ} {H:zO} {G:Nat} {M:Int} {J:Value} (h:Fin w F fb A s H G M J) (D:∀b,A b->w'.heap[b]? =w.heap[b]?) (O:w.heap.size<=w'):Fin w' F fb A s H G M J:=
 ⟨h.box.C4 (D _ h.fb),Dr.Ab.block h.str D,fun b U=>⟨Zal (h.ns b U).1 O,(h.ns b U).2⟩,h.fb⟩
theorem Fin.kept {w w':zN} {A fb:Nat} {H:zT} {s:zQ} {F:zO} {D:Nat} {J:Int} {G:Value} {R:Nat->Nat->Nat->List Nat} (h:Fin w A fb H s F D J G) (k:Kept A R (fun _=>False) w w'):Fin w' A fb H s F D J G:=
 h.move (fun b U=>k.block b (h.ns b U).1 (h.ns b U).2 (fun h=>h)) k.size
theorem Fin.below {w w':zN} {A fb m:Nat} {H:zT} {s:zQ} {F:zO} {D:Nat} {J:Int} {G:Value} (h:Fin w A fb H s F D J G) (k:Below m w w') (hm:w<=m):Fin w' A fb H s F D J G:=
 h.move (fun b U=>k.block b (by have:=(h.ns b U).1;omega)) k.size
end
section
open Tryz Go.RowKit Go.Shelf
attribute [local go_sem] Oper.semAt_some
attribute [local irreducible] Dn C8
section
variable (an fb:Nat) (gr:zT) (s:zQ) (bq:zO) (bb:Nat) (l5:Int) (eg:Value) (R:Nat->Nat->Nat->List Nat)
def Ia (t:Rx) (d:Nat):Prop:=
 ∀(id g:Nat) (v:Value) (a:Nat) (w:zN) (S:zT),Fin w an fb gr s bq bb l5 eg->Cs w gr t id g v->L4 s R t id->(∀b,S b->b<w.heap.size/\b≠an)->Ho w an S R->De s t d a≠[]->
  Calls prog 165 #[zK fb,v,d,a] w fun e w'=>∃u,e=.returned u/\Dh w' (fun b=>S b\/(w.heap.size<=b/\b<w'.heap.size)) (R id d a) u/\Kept an R (fun _=>False) w w'
end
theorem Alu (p q:zO) (d a:Int) (w:zN):
  Calls prog 216 #[.pointer p,.pointer q,d,a] w fun e w'=>e=.returned (.func (.func 242) #[] #[zK (w+1),zK (w+3),zK w,zK (w+2)])/\
   (((w.alloc (.cells [.pointer p].toArray 269)).alloc (.cells [.pointer q].toArray 270)).alloc (.cells [.int .i64 d].toArray 3)).alloc (.cells [.int .i64 a].toArray 3)=w':=by
 go_enter func216,ntmps216
 go_wp2
 exact Z0K
theorem Apv (an fb:Nat) (gr:zT) (s:zQ) (cn:s.length<=512) (bq:zO) (bb:Nat) (l5:Int) (eg:Value) (R:Nat->Nat->Nat->List Nat) (l:Cc) (t:List Rx) (bC:Told (.node l t)) (cl:t.length<=1000) (aw:∀x∈t,Ia an fb gr s bq bb l5 eg R x 0)
  (d:Nat) (ct:d<=t) (aH:l.kind=3->d<t->Ia an fb gr s bq bb l5 eg R (.node l t) (d+1)) (id g:Nat) (v:Value) (a:Nat) (bv bt b6 b5:Nat) (w:zN) (S:zT)
  (bz:Fin w an fb gr s bq bb l5 eg) (bB:Cs w gr (.node l t) id g v) (ad:L4 s R (.node l t) id) (aC:∀b,S b->b<w.heap.size/\b≠an) (ka:Ho w an S R) (a2:De s (.node l t) d a≠[])
  (aS:Ar w bv 270 [v]) (bw:Ar w bt 3 [a]) (aX:Ar w b6 269 [zK fb]) (aO:Ar w b5 3 [d]):
  Wu prog 242 #[zK bv,zK bt,zK b6,zK b5] 1 (fun _ args Y=>∃u,args=#[u]/\Dh Y (fun b=>b<Y.heap.size) (R id d a) u) (fun _ _=>True) (fun _=>Kept an R (fun _=>False)) w:=by
 intro m cr O cE W V cH a8 cM aE ay h0
 have af:=bz.below V (Zab _)
 have bf:=bB.move (w':=W) (fun b U=>V.block b (bz.ns b U).1) (fun _ h=>h)
 have be:Ho W an S R:=ka.move (V.block an ka.lt) (fun b U=>V.block b (aC b U).1) (fun _ h=>h)
 have aM:∀b,S b->b<W.heap.size/\b≠an:=fun b U=>⟨Zal (aC b U).1 V.size,(aC b U).2⟩
 have au:=aS.below V aS.lt
 have aq:=bw.below V bw.lt
 have ar:=aX.below V aX.lt
 have bh:=aO.below V aO.lt
 have av:=ad.self d a
 obtain⟨b,bo,bu,bm,ax,ab,rfl,U,aj,cG,br⟩:=(by simpa only[Cs]using bf:∃b bo bu bm ax ab,v=.pointer (some ⟨b,0,none⟩)/\gr b/\Row W b [l.kind,l.s0,l.s1,l.s2,l.s3,l.mn,l.mx,.slice bo bu bm,id,.int .i64 ((if l.kind=6 then g else 0:Nat):Int),.slice ax t ab]/\t.length<=ab/\(t=[]\/∃H ro,ax=some ⟨H,ro,none⟩/\gr H/\Ee W gr H ro t (id+1) (if l.kind=6 then g+1 else g)))
 have mi:=aj.cell (j:=0) rfl
 have bc7:=aj.cell (j:=10) rfl
 have bu6:=au.cell (j:=0) rfl
 have fl:=aq.cell (j:=0) rfl
 have bu5:=ar.cell (j:=0) rfl
 have ym:=bh.cell (j:=0) rfl
 have f0:=af.box.cell (j:=0) rfl
 refine Zhp func242 rfl trivial ?_ rfl
 simp only[ntmps242,Zfk,Zao,Zav,Nat.reduceAdd,Nat.reduceSub,Zcb,Zcc,Zff,Zdl,Zau,Zas]
 rcases bC.node.1 with a7 | a7 | ⟨a7,x,rfl⟩
 ·have q1:((l.kind.toNat:Int)==1)=false:=D4 (c:=1) yY
  have bp:((l.kind.toNat:Int)==2)=true:=H4 a7;have a9:=au.drewN 1;have a0:=aq.drewN 1;have ac:=ar.drewN 1;have T:=aj.drewN 1;have bA:=af.box.drewN 1;have aa:O 0 (W.drewN 1):=(a8 0).drewN h0 1;have ak:(W.drewN 1).heap.size=W.heap.size:=yN;have bV:=Zaa (fun(c:UInt8) (X:zN)=>Nu l c X);have c7:=af.str;clear aw aH;obtain⟨al,aN⟩:a<s/\l.Q4 (s.getD a 0).toNat=true:=by
   have:=a2;simp only[De,Lk,a7,Zia]at this;split at this
   ·assumption
   exact absurd rfl this
  ·have cD:(a:Int) <s.length:=by omega
   obtain⟨cJ,cI,he,cL,ce⟩:=c7;cases he;rcases ce with cg | ⟨am,ao,rfl,cK,bJ⟩
   ·rw[cg]at al;simp at al
   have b0:=byte_at bJ al;have bg:(W.drewN 1).cell? ⟨am,ao+a,none⟩=some (.int .u8 (s.getD a 0).toNat):=(Zaw (a:=⟨am,ao+a,none⟩) yN).trans b0;have c5:=Zaa aN;generalize s.getD a 0=C at aN b0 bg;gi_wp2_with fail
   refine Zj (r:=none) [(0,.inl (some 0)),(1,.inl (some 0)),(2,.inl none),(3,.inl none),(4,.inl (some 0)),(5,.inl none),(6,.inl none),(7,.inl none),(8,.inl (some 0)),(9,.inl none),(10,.inl none),(11,.inl none),(12,.inl (some 0)),(13,.inl (some 0)),(14,.inl none),(15,.inl none),(16,.inl (some 0)),(17,.inl (some 0)),(18,.inl none),(19,.inl (some 0)),(20,.inr []),(21,.inl none)]
    (fun _ X=>X=W.drewN 1) [0] (.inl rfl) yG yG (fun _ _=>rfl) ?_
   refine Z3s ?_;generalize W.drewN 1=D at*
   refine Av (.int .i64 a) yI (fun w' A=>?_) (fun K J=>?_)
   ·subst A
    have G:=a0.cell (j:=0) rfl;go_simp
   refine Z42 ?_;clear J K;refine Av (.pointer (some ⟨fb,0,none⟩)) yI (fun w' A=>?_) (fun K J=>?_)
   ·subst A
    have G:=ac.cell (j:=0) rfl;go_simp
   refine Z42 ?_;clear J K;refine Z2m ?_;refine Z2m ?_;refine Av (.slice (some ⟨am,ao,none⟩) s bb) yI (fun w' A=>?_) (fun K J=>?_)
   ·subst A
    have G:=bA.cell (j:=0) rfl;go_simp
   refine Z42 ?_;clear J K;refine Z00 ?_;refine Av (.pointer (some ⟨b,0,none⟩)) yI (fun w' A=>?_) (fun K J=>?_)
   ·subst A
    have G:=a9.cell (j:=0) rfl;go_simp
   refine Z42 ?_;clear J K;refine Z00 ?_;refine Av (.agg #[l.s0,l.s1,l.s2,l.s3]) yI (fun w' A=>?_) (fun K J=>?_)
   ·subst A
    have G:=T.cell (j:=1) rfl;have ae:=T.cell (j:=2) rfl;have cu:=T.cell (j:=3) rfl;have cA:=T.cell (j:=4) rfl;go_simp
   refine Z42 ?_;clear J K;refine Av (.pointer (some ⟨fb,0,none⟩)) yI (fun w' A=>?_) (fun K J=>?_)
   ·subst A
    have G:=ac.cell (j:=0) rfl;go_simp
   refine Z42 ?_;clear J K;refine Z2m ?_;refine Z2m ?_;refine Av (.slice (some ⟨am,ao,none⟩) s bb) yI (fun w' A=>?_) (fun K J=>?_)
   ·subst A
    have G:=bA.cell (j:=0) rfl;go_simp
   refine Z42 ?_;clear J K;refine Av (.int .i64 a) yI (fun w' A=>?_) (fun K J=>?_)
   ·subst A
    have G:=a0.cell (j:=0) rfl;go_simp
   refine Z42 ?_;clear J K;refine Z2m ?_;refine Av (.int .u8 C.toNat) yI (fun w' A=>?_) (fun K J=>?_)
   ·subst A
    have G:=bg;go_simp
   refine Z42 ?_;clear J K;refine Ci (fun K J=>?_) yF;go_wp2_with fail
   refine(bV.out C _).mono ?_;rintro e F ⟨rfl,b2⟩;rw[aN];go_wp2_with fail
   refine J _ _ yF ?_;clear J K;refine Z2m ?_;refine C7 ?_;have bM:=(a0.below b2 a0.lt).cell (j:=0) rfl;have bI:IntKind.i64.wrap ((a:Int)+1)=(a:Int)+1:=by rw[Zcw];omega
   have ai:O 0 F:=(a8 0).below aa b2 (Zab _);have a6:O 0 (F.alloc (.cells #[.int .i64 ((a:Int)+1)] 3)):=(a8 0).new ai _;have aR:R id d a=[a+1]:=by rw[av];simp only[De,Lk,a7,Zia];rw[if_pos ⟨al,c5.out⟩]
   have aT:Dh (F.alloc (.cells #[.int .i64 ((a:Int)+1)] 3)) (fun c=>c< (F.alloc (.cells #[.int .i64 ((a:Int)+1)] 3)).heap.size) (R id d a) (.slice (some ⟨F,0,none⟩) 1 1):=by
    rw[aR];exact⟨_,1,rfl,Zab _,.inr ⟨F,0,rfl,yF,Ae F [.int .i64 ((a:Int)+1)] _⟩⟩
   obtain⟨fn,tmps,aD,aY,hy,bl⟩:=ay 0 (F.alloc (.cells #[.int .i64 ((a:Int)+1)] 3)) #[.slice (some ⟨F,0,none⟩) 1 1] Nat.one_pos ⟨_,rfl,aT⟩ a6;exact Z4u
 ·have q1:((l.kind.toNat:Int)==1)=false:=D4 (c:=1) yY
  have bp:((l.kind.toNat:Int)==2)=false:=D4 (c:=2) yY;have cd:((l.kind.toNat:Int)==6)=false:=D4 (c:=6) yY;have cC:((l.kind.toNat:Int)==4)=false:=D4 (c:=4) yY;have cB:((l.kind.toNat:Int)==3)=true:=H4 a7;have bZ:=au;have bQ:=aq;have bS:=ar;have bR:=bh;have bH:=aj;have bW:=h0;have a9:=bZ.drewN 1;have a0:=bQ.drewN 1;have ac:=bS.drewN 1;have bc:=bR.drewN 1;have T:=bH.drewN 1;have aa:O 0 (W.drewN 1):=(a8 0).drewN bW 1;have ak:(W.drewN 1).heap.size=W.heap.size:=yN;have a5:(W.drewN 1).heap=W.heap:=Zhg _ _;gi_wp2_with fail
  refine Pp (r:=none) [(0,.inl (some 0)),(1,.inl (some 0)),(2,.inl none),(3,.inl none),(4,.inl (some 0)),(5,.inl none),(6,.inl none)]
   (fun _ X=>X=W.drewN 1) [0] (.inl rfl) yG yG (fun _ _=>rfl) ?_
  refine Z3s ?_;have bU:=af.move (w':=W.drewN 1) (fun _ _=>by rw[a5]) yE;have c1:=Cs.move (w':=W.drewN 1) (S':=gr) (fun _ _=>by rw[a5]) (fun _ h=>h) _ _ _ _ bf;have aP:=be.move (w':=W.drewN 1) (by rw[a5]) (fun _ _=>by rw[a5]) (fun _ h=>h);have bE:∀b,S b->b< (W.drewN 1).heap.size/\b≠an:=fun b U=>by rw[ak];exact aM b U
  have c8:∀b,gr b->(W.drewN 1).heap[b]? =W.heap[b]? :=fun b _=>by rw[a5]
  have aG:∀(H j:Nat) (u:Value),W.cell? ⟨H,j,none⟩=some u->(W.drewN 1).cell? ⟨H,j,none⟩=some u:=fun H j u h=>(Zaw (a:=⟨H,j,none⟩) (by rw[a5])).trans h
  have cz:W.heap.size<=(W.drewN 1).heap.size:=yE;clear a5 ak;generalize W.drewN 1=D at*
  refine Ba (.int .i64 d) yI (fun w' A=>?_) (fun K J=>?_)
  ·subst A
   have G:=bc.cell (j:=0) rfl;go_simp
  refine Z2n ?_;clear J K;refine Ba (.pointer (some ⟨b,0,none⟩)) yI (fun w' A=>?_) (fun K J=>?_)
  ·subst A
   have G:=a9.cell (j:=0) rfl;go_simp
  refine Z2n ?_;clear J K;refine Z03 ?_;refine Ba (.slice ax t ab) yI (fun w' A=>?_) (fun K J=>?_)
  ·subst A
   have G:=T.cell (j:=10) rfl;go_simp
  refine Z2n ?_;clear J K;refine Z3Z ?_;by_cases b1:d=t
  ·have heq:((d:Int)==t.length)=true:=by rw[b1];simp
   refine Z04 ?_;refine B1 ?_;have bM:=a0.cell (j:=0) rfl;have a6:O 0 (D.alloc (.cells #[a] 3)):=(a8 0).new aa _;have aR:R id d a=[a]:=by rw[av];simp only[De,Lk,a7];rw[b1,Zdr (by rw[Pb];simp)];rfl
   have aT:Dh (D.alloc (.cells #[a] 3)) (fun c=>c< (D.alloc (.cells #[a] 3)).heap.size) (R id d a) (.slice (some ⟨D,0,none⟩) 1 1):=by
    rw[aR];exact⟨_,1,rfl,Zab _,.inr ⟨D,0,rfl,yF,Ae D [a] _⟩⟩
   obtain⟨fn,tmps,aD,aY,hy,bl⟩:=ay 0 (D.alloc (.cells #[a] 3)) #[.slice (some ⟨D,0,none⟩) 1 1] Nat.one_pos ⟨_,rfl,aT⟩ a6;exact Z4u
  have heq:((d:Int)==t.length)=false:=beq_false_of_ne yE;refine Z3Z ?_;refine B1 ?_;have a4:d<t:=yE;rcases br with h | ⟨H,ro,rfl,ca,aW⟩
  ·rw[h]at a4;simp at a4
  obtain⟨u,az,aB⟩:=Ee.get _ _ _ _ aW d a4;clear mi bc7 bu6 fl bu5 ym f0;gi_wp2_with fail
  have aL:=a9.drewN 1;have ba:=a0.drewN 1;have aF:=ac.drewN 1;have aI:=bc.drewN 1;have bG:=T.drewN 1;have bX:O 0 (D.drewN 1):=(a8 0).drewN aa 1;have a1:(D.drewN 1).heap=D.heap:=Zhg _ _;have ap:=bU.move (w':=D.drewN 1) (fun _ _=>by rw[a1]) (by rw[a1];exact Zab _);have c2:=Cs.move (w':=D.drewN 1) (S':=gr) (fun _ _=>by rw[a1]) (fun _ h=>h) _ _ _ _ c1;have aQ:=aP.move (w':=D.drewN 1) (by rw[a1]) (fun _ _=>by rw[a1]) (fun _ h=>h);have ah:∀b,S b->b< (D.drewN 1).heap.size/\b≠an:=fun b U=>by rw[a1];exact bE b U
  have c9:(D.drewN 1).cell? ⟨H,ro+d,none⟩=some u:=(Zaw (a:=⟨H,ro+d,none⟩) (by rw[a1])).trans (aG _ _ _ az);have c3:=Cs.move (w':=D.drewN 1) (S':=gr) (fun b U=>by rw[a1];exact c8 b U) (fun _ h=>h) _ _ _ _ aB;have b7:De s (.node l t) d a=Lu ((Hl s t).drop d) a:=by simp only[De,Lk,a7];rfl
  have bk:(Hl s t).drop d=(fun x=>De s t[d] 0 x)::(Hl s t).drop (d+1):=by
   rw[Pb,Zbq (by simpa using a4),Zbh]
  have b8:=Sn s t[d] 0 a;obtain⟨i,aU⟩:∃i,De s t[d] 0 a=[i]:=by
   rw[b7,bk]at a2;cases b4:De s t[d] 0 a with
   | nil=>simp only[Lu,b4]at a2;exact absurd rfl a2
   | cons x xs=>
    rw[b4]at b8;have:xs=[]:=Zeo.1 (by simp only[Zao]at b8;omega);exact⟨x,by rw[this]⟩
  have bi:De s (.node l t) d a=De s (.node l t) (d+1) i:=by
   have:De s (.node l t) (d+1) i=Lu ((Hl s t).drop (d+1)) i:=by simp only[De,Lk,a7];rfl
   rw[b7,bk,this];simp only[Lu,aU]
  have bd:=ad.sub a4;have aZ:=aw t[d] (Zat a4) _ _ u a (D.drewN 1) S ap c3 bd ah aQ (by rw[aU];simp);rw[bd.self 0 a,aU]at aZ;have cj:=Zaa aZ;clear aZ a1;refine Pp (r:=none) [(0,.inl (some 0)),(1,.inl (some 0)),(2,.inl none),(3,.inl none),(4,.inl (some 0)),(5,.inl (some 0)),(6,.inl none),(7,.inl (some 0)),(8,.inl (some 0)),(11,.inl none),(9,.inr ([],[])),(10,.inl none)]
   (fun _ X=>X=D.drewN 1) [0] (.inl rfl) yG yG (fun _ _=>rfl) ?_
  refine Z3s ?_;generalize D.drewN 1=b9 at*
  have cw:(d:Int) <t.length:=yE;refine Ba (.pointer (some ⟨fb,0,none⟩)) yI (fun w' A=>?_) (fun K J=>?_)
  ·subst A
   have G:=aF.cell (j:=0) rfl;go_simp
  refine Z2n ?_;clear J K;refine Ba (.pointer (some ⟨b,0,none⟩)) yI (fun w' A=>?_) (fun K J=>?_)
  ·subst A
   have G:=aL.cell (j:=0) rfl;go_simp
  refine Z2n ?_;clear J K;refine Z03 ?_;refine Ba (.slice (some ⟨H,ro,none⟩) t ab) yI (fun w' A=>?_) (fun K J=>?_)
  ·subst A
   have G:=bG.cell (j:=10) rfl;go_simp
  refine Z2n ?_;clear J K;refine Ba (.int .i64 d) yI (fun w' A=>?_) (fun K J=>?_)
  ·subst A
   have G:=aI.cell (j:=0) rfl;go_simp
  refine Z2n ?_;clear J K;refine Z3Z ?_;refine Ba (u) yI (fun w' A=>?_) (fun K J=>?_)
  ·subst A
   have G:=c9;go_simp
  refine Z2n ?_;clear J K;refine Ba (.int .i64 a) yI (fun w' A=>?_) (fun K J=>?_)
  ·subst A
   have G:=ba.cell (j:=0) rfl;go_simp
  refine Z2n ?_;clear J K;refine Z3Z ?_;refine A1 rfl (fun K J=>?_);go_wp2_with fail
  refine cj.out.mono ?_;rintro e F ⟨u2,rfl,aA,M⟩;obtain⟨cF,lc,rfl,ci,c6⟩:=aA;simp only[Zao,Zav,Zac]at ci|-;go_wp2_with fail
  refine Z4v ?_;clear J K;refine Z3Z ?_;refine B1 ?_;have ai:O 0 F:=aE _ _ _ bX M;have bT:=ap.kept M;have c0:=Cs.move (w':=F) (S':=gr) (fun b U=>M.block b (ap.ns b U).1 (ap.ns b U).2 (fun h=>h)) (fun _ h=>h) _ _ _ _ c2;have cc:=M.I5 S (fun b U=>⟨(ah b U).1,(ah b U).2,fun h=>h⟩) aQ;have cy:=aQ.lt;have bn:∀b,(S b\/(b9.heap.size<=b/\b<F.heap.size/\¬False))->b<F.heap.size/\b≠an:=fun b U=>by
   rcases U with U | U
   ·exact⟨Zal (ah b U).1 M.size,(ah b U).2⟩
   exact⟨U.2.1,yE⟩
  have aJ:=aH a7 a4 id g (.pointer (some ⟨b,0,none⟩)) i F _ bT c0 ad bn cc (by rw[<-bi];exact a2);rw[show((d+1:Nat):Int)=(d:Int)+1 from rfl,ad.self (d+1) i,<-bi,<-av]at aJ;have cb:=Zaa aJ;have co:=fun(k9:Nat) (ty:TypeId) (cs:zP) (h:Ar D k9 ty cs) (he:Ar b9 k9 ty cs) (a2:k9≠an)=>he.C4 (M.block k9 he.lt a2 (fun h=>h))
  rcases c6 with h | ⟨lb,lo,rfl,-,bs⟩
  ·cases h
  have d0:=bs 0 _ rfl;rw[Zaf]at d0;clear aJ bs;have cv:=ba.lt;have cx:an<w:=ka.lt;have bI:IntKind.i64.wrap ((d:Int)+1)=(d:Int)+1:=by rw[Zcw];omega
  have aV:∀(k9:Nat) (ty:TypeId) (v:Value),Ar w k9 ty [v]->k9≠an:=fun k9 ty v dx e=>by
   exact Z2f
  have bF:=Zaa (aL.C4 (M.block _ aL.lt (aV _ _ _ aS) (fun h=>h)));have bL:=Zaa (aF.C4 (M.block _ aF.lt (aV _ _ _ aX) (fun h=>h)));have bK:=Zaa (aI.C4 (M.block _ aI.lt (aV _ _ _ aO) (fun h=>h)));simp only[Exit.then];gi_wp2_with fail
  gi_loopw [110] (fun v wr=>∃j:Nat,j<=1/\v=.int .i64 j/\((j=0/\wr=F)\/(j=1/\O 1 wr))) (fun v _=>1 - (intOf v).toNat)
  case atStart=>exact⟨0,Zap _,rfl,.inl ⟨rfl,rfl⟩⟩
  case round=>
   obtain⟨j,cm,rfl,cf⟩:=hrel;rcases cf with⟨rfl,rfl⟩ | ⟨rfl,bY⟩
   ·have bP:=bF.out.cell (j:=0) rfl
    have bO:=bL.out.cell (j:=0) rfl;have bN:=bK.out.cell (j:=0) rfl;gi_wp2_with fail
    refine⟨trivial,fun h=>yT,(Zhq.2 cb.out).mono ?_⟩;rintro e b3 ⟨u4,rfl,bD,bx⟩;have jY:O 0 b3:=aE _ _ _ ai bx;have ck:=bx.size;obtain⟨fn,tmps,aD,aY,hy,bl⟩:=ay 0 b3 #[u4] Nat.one_pos ⟨u4,rfl,Dh.Ab.wide bD (fun c a3=>by
     rcases a3 with a3 | a3
     ·exact Zal (bn c a3).1 ck
     exact a3.2)⟩ jY
    clear bP bO bN d0;gi_wp2_with fail
    refine⟨fun h=>yT,bl.mono ?_⟩;rintro e cp (⟨rfl,aK,-⟩ | ⟨rfl,aK,-⟩)
    ·gi_wp2_with fail
     go_roundw
     case rel=>exact⟨1,Zab _,yK,.inr ⟨rfl,aK⟩⟩
     case measure=>simp[intOf]
    gi_wp2_with fail
    exact⟨_,Zid rfl _ _ _,⟨_,rfl⟩,.inr aK⟩
   gi_wp2_with fail
   exact⟨_,Zid rfl _ _ _,⟨_,rfl⟩,.inl bY⟩
 have q1:((l.kind.toNat:Int)==1)=false:=D4 (c:=1) yY
 have bp:((l.kind.toNat:Int)==2)=false:=D4 (c:=2) yY
 have cd:((l.kind.toNat:Int)==6)=true:=H4 a7
 rcases br with h | ⟨H,ro,rfl,ca,aW⟩
 ·cases h
 obtain⟨u,az,aB⟩:=Ee.get _ _ _ _ aW 0 yF
 rw[Zaf]at az
 have aP:=be.move (w':=W.drewN 1) yN (fun _ _=>yN) (fun _ h=>h)
 have ak:(W.drewN 1).heap.size=W.heap.size:=yN
 have bj:=aw x yF (id+1) (if l.kind=6 then g+1 else g) u a (W.drewN 1) S (af.move (fun _ _=>yN) yE) (Cs.move (fun _ _=>yN) (fun _ h=>h) _ _ _ _ aB) (ad.sub (i:=0) yF) (fun b U=>by rw[ak];exact aM b U) aP (by simpa[De,Lk,a7,Hl]using a2)
 have ch:=Zaa bj
 have a9:=au.drewN 1
 have a0:=aq.drewN 1
 have ac:=ar.drewN 1
 have T:=aj.drewN 1
 have aG:(W.drewN 1).cell? ⟨H,ro,none⟩=some u:=(Zaw (a:=⟨H,ro,none⟩) yN).trans az
 have aa:O 0 (W.drewN 1):=(a8 0).drewN h0 1
 clear bj aw aH
 gi_wp2_with fail
 refine Pp (r:=none) [(0,.inl none),(1,.inl (some 0)),(2,.inl (some 0)),(3,.inl none),(4,.inl none),(5,.inl (some 0)),(6,.inl none),(7,.inl (some 0)),(8,.inl (some 0)),(9,.inr ([],[])),(10,.inr ([],[]))]
  (fun _ X=>X=W.drewN 1) [0] (.inl rfl) yG yG (fun _ _=>rfl) ?_
 refine Z3s ?_
 generalize W.drewN 1=D at*
 refine Z3Z ?_
 refine Ba (.pointer (some ⟨fb,0,none⟩)) yI (fun w' A=>?_) (fun K J=>?_)
 ·subst A
  have ae:=ac.cell (j:=0) rfl;go_simp
 refine Z2n ?_
 clear J K
 refine Ba (.pointer (some ⟨b,0,none⟩)) yI (fun w' A=>?_) (fun K J=>?_)
 ·subst A
  have ae:=a9.cell (j:=0) rfl;go_simp
 refine Z2n ?_
 clear J K
 refine Z03 ?_
 refine Ba (.slice (some ⟨H,ro,none⟩) [x].length ab) yI (fun w' A=>?_) (fun K J=>?_)
 ·subst A
  have ae:=T.cell (j:=10) rfl;go_simp
 refine Z2n ?_
 clear J K
 refine Z3Z ?_
 refine Ba (u) yI (fun w' A=>?_) (fun K J=>?_)
 ·subst A
  have ae:=aG;go_simp
 refine Z2n ?_
 clear J K
 refine Ba (.int .i64 a) yI (fun w' A=>?_) (fun K J=>?_)
 ·subst A
  have ae:=a0.cell (j:=0) rfl;go_simp
 refine Z2n ?_
 clear J K
 refine A1 rfl (fun K J=>?_)
 go_wp2_with fail
 refine ch.out.mono ?_
 rintro e F ⟨u2,rfl,aA,M⟩
 go_wp2_with fail
 refine Z4v ?_
 clear J K
 have ai:O 0 F:=aE _ _ _ aa M
 have c4:R (id+1) 0 a=R id d a:=by
  rw[av,show R (id+1) 0 a=De s x 0 a from(ad.sub (i:=0) yF).self 0 a];simp[De,Lk,a7,Hl]
 rw[c4]at aA
 have cq:=M.size
 obtain⟨fn,tmps,aD,aY,hy,bl⟩:=ay 0 F #[u2] Nat.one_pos ⟨u2,rfl,Dh.Ab.wide aA (fun c a3=>a3.elim (fun h=>by have:=(aM c h).1;omega) (fun h=>h.2))⟩ ai
 refine Alp rfl yU (bl.mono ?_)
 rintro e ag (⟨rfl,a6,-⟩ | ⟨rfl,a6,-⟩)
 ·refine⟨_,rfl,⟨yF,yF⟩,B1 ?_⟩
  gi_wp2_with fail
  exact⟨_,Zid rfl _ _ _,⟨_,rfl⟩,.inl a6⟩
 refine⟨_,rfl,⟨yF,yF⟩,B1 ?_⟩
 gi_wp2_with fail
 exact⟨_,Zid rfl _ _ _,⟨_,rfl⟩,.inr a6⟩
end
section
open Tryz Go.RowKit Go.Shelf
attribute [local irreducible] Dn C8
theorem Aei {P:Program} {o:Oper} {a:Act} {W:zN} {v:Value} (t:TypeId) (m x:Operand) {M X:Value} (D:o.op=.lookup t m x true) (hm:a.eval m=M) (A:a.eval x=X) (h:(Instr.lookup t M X true).run P W=.ok v W):(execOp a.eval o).run P W=.ok (.value v) W:=by
 unfold execOp;simp only[D,hm,A,Zgv,h,Zgu];rfl
theorem Aeh {P:Program} {o:Oper} {a:Act} {W A:zN} (t:TypeId) (m x y:Operand) {M X Y:Value} (F:o.op=.mapUpdate t m x y) (hm:a.eval m=M) (D:a.eval x=X) (hy:a.eval y=Y) (h:(Instr.mapUpdate t M X Y).run P W=.ok () A):(execOp a.eval o).run P W=.ok .skip A:=by
 unfold execOp;simp only[F,hm,D,hy,Zgv,h,Zgu];rfl
section
variable {an:Nat} {R:Nat->Nat->Nat->List Nat} {O:zT} {X Y:zN}
theorem Kept.drewN (h:Kept an R O X Y) (k:Nat) (hm:an<X):Kept an R O X (Y.drewN k):=
 Kept.B8 (B:=X.heap.size) (Zab _) hm Y _ none h (B5 Y k none) (fun r e=>yW)
theorem Kept.put (h:Kept an R (fun _=>False) X Y) (o:Obj) (hp:∀S:Nat->Prop,(∀b,S b->b≠an)->(∀b,X.heap.size<=b->b<Y.heap.size->S b)->Ho Y an S R->Ho (Y.putObj an o) an S R) (hm:an<X):Kept an R (fun _=>False) X (Y.putObj an o) where
 os:=h.os
 tape:=h.tape
 output:=h.output
 size:=by rw[World.putObj_size];exact h.size
 block b U D G:=(Zhj D).trans (h.block b U D G)
 I5 S A H:=by
  have h1:=h.I5 S A H;have h2:=hp _ (fun b U=>by
   rcases U with U | U
   ·exact(A b U).2.1
   have:=U.1;omega) (fun b U F=>.inr ⟨U,F,fun h=>h⟩) h1
  exact h2.move rfl (fun _ _=>rfl) fun b U=>U.imp id fun U=>⟨U.1,by rw[World.putObj_size];exact U.2.1,U.2.2⟩
end
theorem Y2 (an fb:Nat) (G:zT) (s:zQ) (aT:s.length<=512) (a7:zO) (a6:Nat) (ab:Int) (a9:Value) (R:Nat->Nat->Nat->List Nat) (l:Cc) (t:List Rx) (aU:Told (.node l t)) (aS:t.length<=1000) (b5:∀x∈t,Ia an fb G s a7 a6 ab a9 R x 0)
  (d:Nat) (b3:d<=t) (b2:l.kind=3->d<t->Ia an fb G s a7 a6 ab a9 R (.node l t) (d+1)):Ia an fb G s a7 a6 ab a9 R (.node l t) d:=by
 intro id g v a w S ar ac aP T ao b6
 have b7:=Zaa (aP.self d a)
 have az:=ac
 obtain⟨b,aF,aJ,aE,ak,aj,rfl,U,bk,bo,bn⟩:=(by simpa only[Cs]using ac:∃b aF aJ aE ak aj,v=.pointer (some ⟨b,0,none⟩)/\G b/\Row w b [l.kind,l.s0,l.s1,l.s2,l.s3,l.mn,l.mx,.slice aF aJ aE,id,.int .i64 ((if l.kind=6 then g else 0:Nat):Int),.slice ak t aj]/\t.length<=aj/\(t=[]\/∃af ro,ak=some ⟨af,ro,none⟩/\G af/\Ee w G af ro t (id+1) (if l.kind=6 then g+1 else g)))
 have bf:=bk.cell (j:=8) rfl
 have a2:an<w:=ao.lt
 obtain⟨F,a3,aK,au,bg⟩:=Bx w [id,d,a] 318
 have aO:=Zaa a3
 have aA:(F.drewN 1).heap=F.heap:=Zhg _ _
 have V:=Bk au 1 yE
 have a5:=aK.drewN 1
 have aq:=ar.below V (Zab _)
 have aV:=Cs.move (w':=F.drewN 1) (S':=G) (fun b U=>V.block b (ar.ns b U).1) (fun _ h=>h) _ _ _ _ az
 have al:=ao.move (w':=F.drewN 1) (V.block an a2) (fun b U=>V.block b (T b U).1) (fun _ h=>h)
 have br:w.heap.size+1=(F.drewN 1).heap.size:=by rw[aA];omega
 have bj:w.heap.size< (F.drewN 1).heap.size:=yE
 clear a3 bg au aK aA ac az
 go_enter func165,ntmps165
 go_upto_region 2 with fail
 have a3:=aO.out
 rw[a3]
 clear a3 aO bf
 refine Ce [(0,.inl none),(1,.inl none),(2,.inl none),(3,.inl (some 0)),(4,.inl (some 0)),(5,.inl (some 0)),(6,.inl none),(7,.inl none),(8,.inl none),(9,.inl none),(10,.inl none)]
  (fun _ X=>X=F.drewN 1) [0] yG yG (fun _ _=>rfl) ?_
 refine Z3s ?_
 generalize F.drewN 1=wd at*
 have aN:Kept an R (fun _=>False) w wd:=Kept.By V (Zab _) a2
 obtain⟨u,ok,aL,aG⟩:=Vc wd an S R al id d a
 refine Z4K ?_
 refine Ba (.map (some an)) yI (fun w' H=>?_) (fun K J=>?_)
 ·subst H
  have ae:=aq.box.cell (j:=3) rfl;go_simp
 refine Z2n ?_
 clear J K
 refine Ba (.agg #[id,d,a]) yI (fun w' H=>?_) (fun K J=>?_)
 ·subst H
  have ae:=a5.cell (j:=0) rfl;have aZ:=a5.cell (j:=1) rfl;have b8:=a5.cell (j:=2) rfl;go_simp
 refine Z2n ?_
 clear J K
 refine D9 (.tuple #[u,ok]) rfl (fun W b1=>by subst b1;exact Aei 276 _ _ rfl rfl rfl aL) ?_
 refine Z03 ?_
 refine Z4K ?_
 refine B1 ?_
 cases ok with
 | true=>
  go_wp2_with fail
  go_ret;exact⟨u,rfl,Dh.Ab.wide (aG trivial) (fun b U=>.inl U),aN⟩
 | false=>
  clear aL aG;go_wp2_with fail
  refine(Alu (some ⟨fb,0,none⟩) (some ⟨b,0,none⟩) d a wd).mono ?_;rintro e aR ⟨rfl,aD⟩;obtain⟨A,aC,aM,aQ,ax,hA2,av,bi⟩:=On wd [zK fb] [zK b] [d] [a] 269 270 3 3;obtain rfl:A=aR:=aC.symm.trans aD;clear aD aC bi;go_wp2_with fail
  refine(An6 242 _ A).mono ?_;rintro e M ⟨rfl,ai⟩;have ad:Below A A M:=by rw[<-ai];exact Bq _ _
  have aI:Ar M A 323 [.func (.func 242) #[] #[zK (wd+1),zK (wd+3),zK wd,zK (wd+2)]]:=by rw[<-ai];exact Ar.new A _ _
  clear ai;have aa:Below wd wd M:=av.trans (ad.mono av.size);have hlen:=Sn s (.node l t) d a;rw[<-b7.out]at hlen;have be:wd.heap.size<=M:=aa.size;have bd:A.heap.size<M:=aI.lt;have b4:=Zaa (Ael an R 241 #[zK A] (fun _ _=>rfl) (R id d a) hlen M yE (fun X a1=>Arn an R 242 _ (fun _ _=>rfl) (R id d a) hlen 1 (Zab _) (fun h=>by cases h) A X (Zal yE a1.size) (aI.below a1 bd)
   (fun Y aH=>by
    have a4:Below wd wd Y:=aa.trans ((a1.trans (aH.mono a1.size)).mono be);have a8:Below A A Y:=ad.trans ((a1.trans (aH.mono a1.size)).mono ad.size);exact Apv an fb G s aT a7 a6 ab a9 R l t aU aS b5 d b3 b2 id g (.pointer (some ⟨b,0,none⟩)) a (wd+1) (wd+3) wd (wd+2) Y S (aq.below a4 (Zab _))
     (Cs.move (fun b U=>a4.block b (aq.ns b U).1) (fun _ h=>h) _ _ _ _ aV) aP (fun b U=>⟨Zal (T b U).1 (Zag V.size a4.size),(T b U).2⟩) (al.move (a4.block an al.lt) (fun b U=>a4.block b (Zal (T b U).1 V.size)) (fun _ h=>h)) b6
     (aQ.below a8 aQ.lt) (hA2.below a8 hA2.lt) (aM.below a8 aM.lt) (ax.below a8 ax.lt))))
  go_wp2_with fail
  refine b4.out.mono ?_;rintro e D ⟨v4,rfl,aX,ap⟩;have bc:Kept an R (fun _=>False) w D:=(aN.trans (Kept.By aa (Zab _) yE) a2).trans ap a2;go_wp2_with fail
  have ah:=bc.drewN 1 a2;have aw:(D.drewN 1).heap=D.heap:=Zhg _ _;have am:Ar (D.drewN 1) w 318 [id,d,a]:=((a5.below aa bj).C4 (ap.block _ yE yE (fun h=>h))).drewN 1;have aW:=ar.kept ah;have ag:Dh (D.drewN 1) (fun b=>M.heap.size<=b/\b<D.heap.size) (R id d a) v4:=Dh.Ab.drewN aX 1;have bs:D.heap.size<=(D.drewN 1).heap.size:=by rw[aw];exact Zab _
  have bm:=ap.size;refine Ce [(0,.inl none),(1,.inl none),(2,.inl none),(3,.inl (some 0)),(4,.inl (some 0)),(5,.inl none),(6,.inr ([],[]))]
   (fun _ X=>X=D.drewN 1) [0] yG yG (fun _ _=>rfl) ?_
  clear aw;simp only[Bi,Zak,Zan,Zah,Zad,Zae,Zaj];generalize D.drewN 1=a0 at*
  refine Ah (fun K J=>?_);go_simp;refine J _ ?_;clear J K;refine Ah (fun K J=>?_);go_simp;refine J _ ?_;clear J K;refine Ah (fun K J=>?_);go_simp;refine J _ ?_;clear J K;refine Ba (.map (some an)) yI (fun w' H=>?_) (fun K J=>?_)
  ·subst H
   have ae:=aW.box.cell (j:=3) rfl;go_simp
  go_simp;refine J _ ?_;clear J K;refine Ba (.agg #[id,d,a]) yI (fun w' H=>?_) (fun K J=>?_)
  ·subst H
   have ae:=am.cell (j:=0) rfl;have aZ:=am.cell (j:=1) rfl;have b8:=am.cell (j:=2) rfl;go_simp
  go_simp;refine J _ ?_;clear J K;refine Ah (fun K J=>?_);go_simp;refine J _ ?_;clear J K;have aY:=ah.I5 S (fun b U=>⟨(T b U).1,(T b U).2,fun h=>h⟩) ao;have bh:∀b,(S b\/(w.heap.size<=b/\b<a0.heap.size/\¬False))->b≠an:=fun b U=>by
   rcases U with U | U
   ·exact(T b U).2
   omega
  obtain⟨o,ay,bl⟩:=O3 a0 an _ R aY id d a v4 (Dh.Ab.wide ag (fun b U=>.inr ⟨yE,yE,fun h=>h⟩)) bh;refine Hg rfl (Aeh 276 _ _ _ rfl rfl rfl rfl ay) yF yF (B1 ?_);have b0:Kept an R (fun _=>False) w (a0.putObj an o):=ah.put o (fun S' h1 h2 b9=>by
   obtain⟨bq,aB,ba⟩:=O3 a0 an S' R b9 id d a v4 (Dh.Ab.wide ag (fun b U=>h2 b yE yE)) h1;rw[ay]at aB;injection aB with _ e;rw[e];exact ba) a2
  have bb:Dh (a0.putObj an o) (fun b=>S b\/(w.heap.size<=b/\b< (a0.putObj an o).heap.size)) (R id d a) v4:=Dh.Ab.wide (Dh.Ab.block ag (fun b U=>Zhj yE)) (fun b U=>.inr ⟨yE,by rw[World.putObj_size];omega⟩);generalize a0.putObj an o=bp at*
  go_wp2_with fail
  go_ret;exact⟨v4,rfl,bb,b0⟩
theorem Ut (an fb:Nat) (G:zT) (s:zQ) (V:s.length<=512) (D:zO) (A:Nat) (H:Int) (F:Value) (R:Nat->Nat->Nat->List Nat) (t:Rx):Told t->t.size<=1000->∀d,d<=t.Cb.length->Ia an fb G s D A H F R t d:=by
 refine Tree.ind (P:=fun t=>Told t->t.size<=1000->∀d,d<=t.Cb.length->Ia an fb G s D A H F R t d) (fun l t a0 T bp=>?_) t;have hlen:t.length<=1000:=by
  exact Z1R
 have U:∀x∈t,Ia an fb G s D A H F R x 0:=fun x M=>a0 x M (T.node.2 x M) (by
  have:=Tree.D2 t x M;simp only[Tree.size]at bp;omega) 0 (Zap _)
 have key:∀n d,d<=t.length->t.length - d=n->Ia an fb G s D A H F R (.node l t) d:=by
  intro n
  induction n with
  | zero=>exact fun d J W=>Y2 an fb G s V D A H F R l t T hlen U d J (fun _ h=>yE)
  | succ n a1=>exact fun d J W=>Y2 an fb G s V D A H F R l t T hlen U d J (fun _ h=>a1 (d+1) h yE)
 exact fun d J=>key _ d J rfl
end
section
open Tryz Go.RowKit Go.Shelf
attribute [local irreducible] Dn C8
theorem Sd {w:zN} {S:zT} {x:Nat} {v:Value} {n:Nat} (h:Dh w S [x] v) (D:∀b,S b->b<n):∃a c,v=.slice a 1 c/\Bs w n 1 a [[Value.int .i64 (x:Int)]]/\∃b o,a=some ⟨b,o,none⟩/\S b/\w.cell? ⟨b,o,none⟩=some (.int .i64 x):=by
 obtain⟨a,c,rfl,F,h⟩:=h;rcases h with h | ⟨b,o,rfl,U,a6⟩
 ·cases h
 refine⟨_,c,rfl,.inr ⟨b,o,rfl,D b U,fun i A=>?_⟩,b,o,rfl,U,uQ⟩;simp only[Zao,Zav]at A;obtain rfl:i=0:=yE;simpa using a6
section
variable (an fb:Nat) (gr:zT) (s:zQ) (bq:zO) (bb:Nat) (l5:Int) (eg:Value) (R:Nat->Nat->Nat->List Nat)
theorem Qc (t:Rx) (d:Nat) (a6:Ia an fb gr s bq bb l5 eg R t d) (id g:Nat) (v:Value) (i F:Nat) (M V H O:Nat) (w:zN) (S:zT) (ak:Fin w an fb gr s bq bb l5 eg) (ab:Cs w gr t id g v) (a9:L4 s R t id) (a3:∀b,S b->b<w.heap.size/\b≠an) (ka:Ho w an S R) (a4:De s t d i=[F])
  (aa:Ar w M 269 [zK fb]) (a7:Ar w V 270 [v]) (a5:Ar w H 3 [d]) (hbt:Ar w O 3 [F]):
  Calls prog 245 #[i,zK M,zK V,zK H,zK O] w fun e w'=>e=.returned (.bool true)/\Kept an R (fun _=>False) w w':=by
 have a0:=ka.lt
 have T:∀(k9:Nat) (ty:TypeId) (u:Value),Ar w k9 ty [u]->k9≠an:=fun k9 ty u dx e=>by
  exact Z2f
 have al:=T _ _ _ aa
 have ap:=T _ _ _ a7
 have am:=T _ _ _ a5
 have ai:=T _ _ _ hbt
 have A:(w.drewN 1).heap=w.heap:=Zhg _ _
 have a1:=a6 id g v i (w.drewN 1) S (ak.move (fun _ _=>by rw[A]) (by rw[A];exact Zab _)) (Cs.move (fun _ _=>by rw[A]) (fun _ h=>h) _ _ _ _ ab) a9 (fun b U=>by rw[A];exact a3 b U) (ka.move (by rw[A]) (fun _ _=>by rw[A]) (fun _ h=>h)) (by rw[a4];simp)
 rw[a9.self d i,a4]at a1
 have aj:=Zaa a1
 have ag:Kept an R (fun _=>False) w (w.drewN 1):=(Kept.refl a0).drewN 1 a0
 have ac:∀b,S b->b< (w.drewN 1).heap.size:=fun b U=>by rw[A];exact(a3 b U).1
 have af:(fun X=>Ar X M 269 [zK fb]/\Ar X V 270 [v]/\Ar X H 3 [d]/\Ar X O 3 [F]) (w.drewN 1):=⟨aa.drewN 1,a7.drewN 1,a5.drewN 1,hbt.drewN 1⟩
 clear a6 a1 A
 go_enter func245,ntmps245
 go_upto_region 1 with fail
 refine Ce [(0,.inl (some 0)),(1,.inl (some 0)),(2,.inl (some 0)),(3,.inl none),(5,.inl (some 0)),(4,.inr ([],[0])),(6,.inr ([],[])),(7,.inl none)]
  (fun _ X=>Ar X M 269 [zK fb]/\Ar X V 270 [v]/\Ar X H 3 [d]/\Ar X O 3 [F]) [0] yG yG (fun _ _=>af) ?_
 refine Z3s ?_
 generalize w.drewN 1=wd at*
 refine Ba (.pointer (some ⟨fb,0,none⟩)) yI (fun w' D=>?_) (fun K J=>?_)
 ·have Y:=D.1.cell (j:=0) rfl
  go_simp
 refine Z2n ?_
 clear J K
 refine Ba (v) yI (fun w' D=>?_) (fun K J=>?_)
 ·have Y:=D.2.1.cell (j:=0) rfl
  go_simp
 refine Z2n ?_
 clear J K
 refine Ba (.int .i64 d) yI (fun w' D=>?_) (fun K J=>?_)
 ·have Y:=D.2.2.1.cell (j:=0) rfl
  go_simp
 refine Z2n ?_
 clear J K
 refine Z04 ?_
 refine Ba (.int .i64 F) yI (fun w' D=>?_) (fun K J=>?_)
 ·have Y:=D.2.2.2.cell (j:=0) rfl
  go_simp
 refine Z2n ?_
 clear J K
 refine A1 rfl (fun K J=>?_)
 go_wp2_with fail
 refine aj.out.mono ?_
 rintro e W ⟨u2,rfl,aq,G⟩
 have ao:=G.size
 obtain⟨a2,ae,rfl,ah,-⟩:=Sd (n:=W.heap.size) aq (fun b U=>by
  rcases U with U | U
  ·exact Zal (ac b U) ao
  exact U.2)
 go_wp2_with fail
 refine J _ _ yF (Bg (fun h=>⟨h.1.C4 (G.block _ h.1.lt al (fun h=>h)),h.2.1.C4 (G.block _ h.2.1.lt ap (fun h=>h)),h.2.2.1.C4 (G.block _ h.2.2.1.lt am (fun h=>h)),h.2.2.2.C4 (G.block _ h.2.2.2.lt ai (fun h=>h))⟩)) ?_
 clear J K
 have a8:=Zaa (Oo a2 ae [(F:Int)] (F:Int) W W yF ah)
 simp only[Zao,Zav,Zac,List.any_cons,Zdi,Zcm,beq_self_eq_true]at a8
 refine A1 rfl (fun K J=>?_)
 go_wp2_with fail
 refine a8.out.mono ?_
 rintro e ar ⟨rfl,rfl⟩
 go_wp2_with fail
 refine Z4v ?_
 clear J K
 refine Z04 ?_
 refine B1 ?_
 have ad:=ag.trans G a0
 go_wp2_with fail
 go_ret
 exact⟨rfl,ad⟩
theorem index_one (gf:Nat) (lb:Array Value) (G:∀args w,(callFunc gf args).run prog w=.ok (.enter gf args) w) (b o c i:Nat) (w:zN) (F:w.cell? ⟨b,o,none⟩=some (.int .i64 i)) (hC:Calls prog gf (#[.int .i64 i]++lb) w fun e w'=>e=.returned (.bool true)/\Kept an R (fun _=>False) w w'):
  Calls prog 244 #[.slice (some ⟨b,o,none⟩) 1 c,.func (.func gf) #[] lb] w fun e w'=>e=.returned (.int .i64 0)/\Kept an R (fun _=>False) w w':=by
 have c3:=Zaa hC
 clear hC
 go_enter func244,ntmps244
 go_wp2_with fail
 go_loopw [8] (fun v wr=>v=.int .i64 0/\wr=w) (fun _ _=>0)
 case atStart=>exact⟨rfl,rfl⟩
 case round=>
  obtain⟨rfl,rfl⟩:=hrel;go_wp2_with fail
  refine Z0P ?_;rintro e D ⟨rfl,A⟩;go_wp2_with fail
  go_ret;exact⟨rfl,A⟩
theorem Ai6 (t:Rx) (d:Nat) (ag:Ia an fb gr s bq bb l5 eg R t d) (id g:Nat) (H:zO) (i J:Nat) (a0:Value) (w:zN) (S a9:zT) (a8:Fin w an fb gr s bq bb l5 eg) (aa:Cs w gr t id g (.pointer H)) (ao:L4 s R t id) (O:∀b,S b->b<w.heap.size/\b≠an) (a5:Ho w an S R) (ae:De s t d i=[J])
  (ad:Dh w a9 [i] a0) (T:∀b,a9 b->b<w.heap.size/\b≠an):
  Calls prog 217 #[zK fb,a0,.pointer H,d,J] w fun e w'=>e=.returned (.int .i64 i)/\Kept an R (fun _=>False) w w':=by
 have V:=a5.lt
 obtain⟨a2,af,rfl,-,b2,F,rfl,W,a4⟩:=Sd (n:=w.heap.size) ad (fun b U=>(T b U).1)
 obtain⟨A,D,ac,ap,ah,am,G,ai⟩:=On w [zK fb] [.pointer H] [d] [J] 269 270 3 3
 have a7:=Zaa D
 have M:∀b,b<w.heap.size->A.heap[b]? =w.heap[b]? :=fun b U=>G.block b U
 have a6:A.cell? ⟨b2,F,none⟩=some (.int .i64 i):=(Zaw (a:=⟨b2,F,none⟩) (M b2 (T b2 W).1)).trans a4
 have a3:=Qc an fb gr s bq bb l5 eg R t d ag id g (.pointer H) i J w (w+1) (w+2) (w+3) A S (a8.below G (Zab _)) (Cs.move (fun b U=>M b (a8.ns b U).1) (fun _ h=>h) _ _ _ _ aa) ao (fun b U=>⟨Zal (O b U).1 G.size,(O b U).2⟩) (a5.move (M an V) (fun b U=>M b (O b U).1) (fun _ h=>h)) ae ac ap ah am
 have al:=Zaa (index_one an R 245 #[zK w,zK (w+1),zK (w+2),zK (w+3)] (fun _ _=>rfl) b2 F af i A a6 a3)
 have ak:Kept an R (fun _=>False) w A:=Kept.By G (Zab _) V
 have a1:=Zaa (T b2 W)
 clear D ai a3 a6
 go_enter func217,ntmps217
 go_upto_region 1 with fail
 have D:=a7.out
 rw[D]
 clear D a7
 go_wp2_with fail
 refine al.out.mono ?_
 rintro e ab ⟨rfl,aj⟩
 have Y:=ak.trans aj V
 have aq:ab.cell? ⟨b2,F,none⟩=some (.int .i64 i):=(Zaw (a:=⟨b2,F,none⟩) (Y.block b2 a1.out.1 a1.out.2 (fun h=>h))).trans a4
 go_wp2_with fail
 go_ret
 exact⟨rfl,Y⟩
end
end
section
open Tryz Go.RowKit Go.Shelf
attribute [local irreducible] Dn C8
mutual
def Gw (s:zQ):Rx->Nat->Nat->Nat->List (Int×Int)->List (Int×Int)
 | .node l t,g,a,z,A=>if l.kind=6 then Amy s t (g+1) a z (A.set g ((a:Int),(z:Int)))else if l.kind=3 then Oz s t g a A else A
def Amy (s:zQ):List Rx->Nat->Nat->Nat->List (Int×Int)->List (Int×Int)
 | [],_,_,_,A=>A
 | x::_,g,a,z,A=>Gw s x g a z A
def Oz (s:zQ):List Rx->Nat->Nat->List (Int×Int)->List (Int×Int)
 | [],_,_,A=>A
 | x::xs,g,a,A=>Oz s xs (g+x.B3) ((De s x 0 a).headD 0) (Gw s x g a ((De s x 0 a).headD 0) A)
end
mutual
theorem Xz (s:zQ):∀(t:Rx) (g a z:Nat) (A:List (Int×Int)),(Gw s t g a z A).length=A.length
 | .node l t,g,a,z,A=>by
  simp only[Gw];split
  ·rw[Arp s t];simp
  split
  ·exact Arq s t _ _ _
  ·rfl
theorem Arp (s:List UInt8):∀(t:List Rx) (g a z:Nat) (ps:List (Int×Int)),(Amy s t g a z ps).length=ps.length
 | [],_,_,_,_=>rfl
 | x::_,g,a,z,ps=>by simp only[Amy];exact Xz s x _ _ _ _
theorem Arq (s:List UInt8):∀(t:List Rx) (g a:Nat) (ps:List (Int×Int)),(Oz s t g a ps).length=ps.length
 | [],_,_,_=>rfl
 | x::xs,g,a,ps=>by simp only[Oz];rw[Arq s xs,Xz s x]
end
def E7 (w:zN) (eg:Value) (A:List (Int×Int)):Prop:=
 ∃a c,eg=.slice a A c/\A.length<=c/\((A=[]/\a=none)\/∃D,a=some ⟨D,0,none⟩/\D<w.heap.size/\∀k (h:k<A.length),w.rangeAt D (k*2) [.int .i64 A[k].1,.int .i64 A[k].2]/\w.there D (k*2) 2)
theorem E7.lt {w:zN} {eg:Value} {A:List (Int×Int)} (h:E7 w eg A):∀b,eg.ownBlock=some b->b<w.heap.size:=by
 obtain⟨a,c,rfl,F,h⟩:=h;rcases h with⟨-,rfl⟩ | ⟨G,rfl,D,_⟩
 ·intro b U;cases U
 intro b U;simp only[Value.ownBlock,Zbb]at U;omega
theorem E7.C4 {w w':zN} {eg:Value} {G:List (Int×Int)} (h:E7 w eg G) (H:∀b,eg.ownBlock=some b->b<w.heap.size->w'.heap[b]? =w.heap[b]?) (O:w.heap.size<=w'):E7 w' eg G:=by
 obtain⟨a,c,rfl,M,h⟩:=h;refine⟨a,c,rfl,M,h.imp id ?_⟩;rintro⟨A,rfl,F,h⟩;have U:=H A rfl F;refine⟨A,rfl,Zal F O,fun k D=>⟨Ag (h k D).1 U,fun j J=>?_⟩⟩;obtain⟨h1,h2⟩:=(h k D).2 j J;exact⟨by rw[Zaw (a:=⟨A,_,none⟩) U];exact h1,by simp only[World.frozen?,U]at h2|-;exact h2⟩
theorem E7.set {w:zN} {eg:Value} {D:List (Int×Int)} {a:zO} {c A:Nat} (h:E7 w eg D) (G:eg=.slice (some ⟨A,0,none⟩) D c) {g:Nat} (H:g<D) (x y:Int):E7 (w.setCells A (g*2) [x,y]) eg (D.set g (x,y)):=by
 obtain⟨M,T,e,J,h⟩:=h;rw[G]at e;cases e;rcases h with⟨h,-⟩ | ⟨U,e,O,h⟩
 ·rw[h]at H;simp at H
 cases e;refine⟨_,c,by rw[G];simp,by simpa using J,.inr ⟨A,rfl,by have:=(Ao w A [x,y] (g*2)).size;omega,fun k a7=>?_⟩⟩;have F:k<D:=xZ;refine⟨?_,World.there_setCells (h k F).2 _ _ _⟩;by_cases e:k=g
 ·subst e
  simp only[List.getElem_set_self];exact Zar w A (k*2) _ (h k F).2
 rw[List.getElem_set_ne (Ne.symm e)];exact Zhl (h k F).1 A (g*2) _ (.inr (by simp only[Zao,Zav];omega))
section
variable (an fb:Nat) (gr:zT) (s:zQ) (bq:zO) (bb:Nat) (l5:Int) (eg:Value) (R:Nat->Nat->Nat->List Nat)
def Acj (t:Rx):Prop:=
 ∀(id g:Nat) (v:Value) (a z:Nat) (w:zN) (S:zT) (A:List (Int×Int)),Fin w an fb gr s bq bb l5 eg->Cs w gr t id g v->L4 s R t id->(∀b,S b->b<w.heap.size/\b≠an/\eg.ownBlock≠some b)->Ho w an S R->E7 w eg A->De s t 0 a=[z]->g+t.B3<=A->
  Calls prog 166 #[zK fb,v,a,z] w fun e w'=>e=.returned (.int .i64 0)/\E7 w' eg (Gw s t g a z A)/\Kept an R (fun b=>eg.ownBlock=some b) w w'
theorem Akb (aY:s.length<=512) (b9:∀b,gr b->eg.ownBlock≠some b) (ba:eg.ownBlock≠some an) (t:Rx):Told t->t.size<=1000->Acj an fb gr s bq bb l5 eg R t:=by
 refine Tree.ind (P:=fun t=>Told t->t.size<=1000->Acj an fb gr s bq bb l5 eg R t) (fun l t b7 aj bp=>?_) t;have hlen:t.length<=1000:=by
  exact Z1R
 have b0:∀x∈t,x.size<=1000:=fun x T=>by
  have:=Tree.D2 t x T;simp only[Tree.size]at bp;omega
 have ah:∀x∈t,Acj an fb gr s bq bb l5 eg R x:=fun x T=>b7 x T (aj.node.2 x T) (b0 x T)
 have aF:∀x∈t,Ia an fb gr s bq bb l5 eg R x 0:=fun x T=>Ut an fb gr s aY bq bb l5 eg R x (aj.node.2 x T) (b0 x T) 0 (Zap _)
 have aE:∀d,d<=t.length->Ia an fb gr s bq bb l5 eg R (.node l t) d:=Ut an fb gr s aY bq bb l5 eg R (.node l t) aj bp;clear b7;intro id g v a z w S A af aV aS V aR ab ag bu;have bF:=aV;obtain⟨b,bj,bo,bi,aL,aK,rfl,U,ad,cw,aP⟩:=(by simpa only[Cs]using aV:∃b bj bo bi aL aK,v=.pointer (some ⟨b,0,none⟩)/\gr b/\Row w b [l.kind,l.s0,l.s1,l.s2,l.s3,l.mn,l.mx,.slice bj bo bi,id,.int .i64 ((if l.kind=6 then g else 0:Nat):Int),.slice aL t aK]/\t.length<=aK/\(t=[]\/∃F ro,aL=some ⟨F,ro,none⟩/\gr F/\Ee w gr F ro t (id+1) (if l.kind=6 then g+1 else g)));have ac:=ad.cell (j:=0) rfl;have ak:=ad.cell (j:=10) rfl;have O:an<w:=aR.lt;rcases aj.node.1 with a7 | a7 | ⟨a7,x,rfl⟩
 ·have bm:((l.kind.toNat:Int)==6)=false:=D4 (c:=6) yY
  have c1:((l.kind.toNat:Int)==4)=false:=D4 (c:=4) yY;have c0:((l.kind.toNat:Int)==3)=false:=D4 (c:=3) yY;have cu:((l.kind.toNat:Int)==5)=false:=D4 (c:=5) yY;have G:Gw s (.node l t) g a z A=A:=by simp[Gw,a7]
  rw[G];clear aF aE ah;go_enter func166,ntmps166
  go_wp2_with fail
  go_ret;exact⟨rfl,ab,Kept.refl O⟩
 ·have bm:((l.kind.toNat:Int)==6)=false:=D4 (c:=6) yY
  have c1:((l.kind.toNat:Int)==4)=false:=D4 (c:=4) yY;have c0:((l.kind.toNat:Int)==3)=true:=H4 a7;have au:¬l.kind=6:=yY;rw[if_neg au]at aP;have G:Gw s (.node l t) g a z A=Oz s t g a A:=by simp[Gw,a7]
  rw[G];obtain⟨b3,aH⟩:=zL (Oz s t g a A);rw[aH];have aB:∀d a,De s (.node l t) d a=Lu ((Hl s t).drop d) a:=fun d a=>by simp only[De,Lk,a7];rfl
  have aM:Tree.B3 (.node l t)=Be t:=by rw[E0];simp[au]
  rw[aM]at bu;rw[aB,List.drop_zero]at ag;have aQ:∀b,eg.ownBlock=some b->b<w.heap.size:=ab.lt;have bJ:=Zaa aB;have bM:=Zaa aH;have bK:=Zaa ag;have bI:=Zaa ad;clear aB G aM aH ag;go_enter func166,ntmps166
  go_wp2_with fail
  clear ac ak;go_loopw [2,78] (fun bD aN wr=>∃(k M:Nat) (a1:List (Int×Int)),k<=t/\bD=.int .i64 M/\aN=.int .i64 k/\Lu ((Hl s t).drop k) M=[z]/\Oz s (t.drop k) (g+Be (t.take k)) M a1=b3/\E7 wr eg a1/\a1.length=A/\Kept an R (fun b=>eg.ownBlock=some b) w wr) (fun _ aN _=>t.length - (intOf aN).toNat)
  case atStart=>exact⟨0,a,A,Zap _,rfl,rfl,by rw[List.drop_zero];exact bK.out,by rw[List.drop_zero,Zfr];simpa[Be,Tree.Dw]using bM.out,ab,rfl,Kept.refl O⟩
  case round=>
   obtain⟨k,M,a1,cl,rfl,rfl,a3,G,aI,ca,a0⟩:=hrel;by_cases ao:k<t
   ·have cv:(k:Int) <t.length:=by omega
    rcases aP with h | ⟨F,ro,rfl,ar,aT⟩
    ·rw[h]at ao;simp at ao
    obtain⟨u,aw,ax⟩:=Ee.get _ _ _ _ aT k ao;have bn:=Zat ao;have aJ:(Hl s t).drop k=(fun x=>De s t[k] 0 x)::(Hl s t).drop (k+1):=by
     rw[Pb,Zbq xX,Zbh]
    have aC:=Sn s t[k] 0 M;obtain⟨i,a9⟩:∃i,De s t[k] 0 M=[i]:=by
     rw[aJ]at a3;cases aZ:De s t[k] 0 M with
     | nil=>simp only[Lu,aZ]at a3;cases a3
     | cons x xs=>
      rw[aZ]at aC;have:xs=[]:=Zeo.1 (by simp only[Zao]at aC;omega);exact⟨x,by rw[this]⟩
    have bd:Lu ((Hl s t).drop (k+1)) i=[z]:=by
     rw[aJ]at a3;simpa only[Lu,a9]using a3
    have bh:Oz s (t.drop (k+1)) (g+Be (t.take (k+1))) i (Gw s t[k] (g+Be (t.take k)) M i a1)=b3:=by
     rw[Zbq ao]at G;simp only[Oz,a9,List.headD_cons]at G;rw[Zay ao,Ev,C6];simpa[Be,Tree.Dw,Zfx]using G
    have c5:g+Be (t.take k)+t[k].B3<=a1:=by
     have h1:Be t=Be (t.take k)+(t[k].B3+Be (t.drop (k+1))):=by
      rw[<-C6,<-Zbq ao,<-Ev,Zfo]
     omega
    have H:∀b,gr b->wr.heap[b]? =w.heap[b]? :=fun b U=>a0.block b (af.ns b U).1 (af.ns b U).2 (b9 b U)
    have al:=af.move H a0.size;have bO:=Cs.move (S':=gr) H (fun _ h=>h) _ _ _ _ bF;have bg:=Cs.move (S':=gr) H (fun _ h=>h) _ _ _ _ ax;have cp:wr.cell? ⟨F,ro+k,none⟩=some u:=(Zaw (a:=⟨F,ro+k,none⟩) (H F ar)).trans aw;have b8:=a0.I5 S (fun b U=>⟨(V b U).1,(V b U).2.1,(V b U).2.2⟩) aR;have bk:=a0.size;have Y:∀b,(S b\/(w.heap.size<=b/\b<wr.heap.size/\¬eg.ownBlock=some b))->b<wr.heap.size/\b≠an/\eg.ownBlock≠some b:=fun b U=>by
     rcases U with U | U
     ·exact⟨Zal (V b U).1 bk,(V b U).2⟩
     exact⟨U.2.1,yE,U.2.2⟩
    have aG:=aS.sub ao;have aU:=aF t[k] bn _ _ u M wr _ al bg aG (fun b U=>⟨(Y b U).1,(Y b U).2.1⟩) b8 (by rw[a9];simp);rw[aG.self 0 M,a9]at aU;have cf:=Zaa aU;have aX:=bI.out.C4 (H b U);have ac:=aX.cell (j:=0) rfl;have ak:=aX.cell (j:=10) rfl;have bf:an<wr:=Zal O bk;have bL:=Zaa a9;have b1:=Zaa bd;have c6:=Zaa bh;clear aU a9 a3 G bd bh aJ aC;go_wp2_with fail
    refine cf.out.mono ?_;rintro e a2 ⟨bW,rfl,cg,a5⟩;have br:=a5.size;have av:=al.kept a5;have bc:∀b,gr b->a2.heap[b]? =wr.heap[b]? :=fun b U=>a5.block b (al.ns b U).1 (al.ns b U).2 (fun h=>h)
    have cd:=Cs.move (S':=gr) bc (fun _ h=>h) _ _ _ _ bO;have bl:=a5.I5 _ (fun b U=>⟨(Y b U).1,(Y b U).2.1,fun h=>h⟩) b8;have a4:∀b,((S b\/(w.heap.size<=b/\b<wr.heap.size/\¬eg.ownBlock=some b))\/(wr.heap.size<=b/\b<a2.heap.size/\¬False))->b<a2.heap.size/\b≠an/\eg.ownBlock≠some b:=fun b U=>by
     rcases U with U | U
     ·exact⟨Zal (Y b U).1 br,(Y b U).2⟩
     exact⟨U.2.1,yE,fun e=>by have:=aQ b e;omega⟩
    have bN:∀b,((S b\/(w.heap.size<=b/\b<wr.heap.size/\¬eg.ownBlock=some b))\/(wr.heap.size<=b/\b<a2.heap.size))->b<a2.heap.size/\b≠an:=fun b U=>by
     rcases U with U | U
     ·exact⟨Zal (Y b U).1 br,(Y b U).2.1⟩
     exact⟨U.2,yE⟩
    have aA:=Ai6 an fb gr s bq bb l5 eg R (.node l t) (k+1) (aE (k+1) ao) id g (some ⟨b,0,none⟩) i z bW a2 _ _ av cd aS (fun b U=>⟨(a4 b U).1,(a4 b U).2.1⟩) bl (by rw[bJ.out];exact b1.out) cg bN;rw[show((k+1:Nat):Int)=(k:Int)+1 from rfl]at aA;have bE:=Zaa aA;have cm:IntKind.i64.wrap ((k:Int)+1)=(k:Int)+1:=by rw[Zcw];omega
    clear aA;go_wp2_with fail
    refine bE.out.mono ?_;rintro e ai ⟨rfl,a6⟩;have c8:=a6.size;have bX:=av.kept a6;have bR:∀b,gr b->ai.heap[b]? =wr.heap[b]? :=fun b U=>(a6.block b (av.ns b U).1 (av.ns b U).2 (fun h=>h)).trans (bc b U)
    have c4:=Cs.move (S':=gr) bR (fun _ h=>h) _ _ _ _ bg;have c3:=a6.I5 _ (fun b U=>⟨(a4 b U).1,(a4 b U).2.1,fun h=>h⟩) bl;have be:Kept an R (fun b=>eg.ownBlock=some b) wr ai:=(a5.trans a6 bf).Gz (fun b U=>U.elim) (fun b U az=>by have:=aQ b az;omega);have bv:=aI.C4 (w':=ai) (fun b U az=>((a5.trans a6 bf).block b az (fun e=>ba (by rw[<-e];exact U)) (fun h=>h))) be.size;have bs:=ah t[k] bn _ (g+Be (t.take k)) u M i ai _ a1 bX c4 aG (fun b U=>by
     rcases U with U | U
     ·exact⟨Zal (a4 b U).1 c8,(a4 b U).2⟩
     exact⟨U.2.1,yE,fun e=>by have:=aQ b e;omega⟩) c3 bv bL.out c5
    have cc:=Zaa bs;clear bs ac ak;go_wp2_with fail
    refine cc.out.mono ?_;rintro e ck ⟨rfl,bY,c7⟩;go_wp2_with fail
    go_roundw
    case rel=>exact⟨k+1,i,_,ao,rfl,yK,b1.out,c6.out,bY,by rw[Xz];exact ca,(a0.trans be O).trans c7 O⟩
    case measure=>simp[intOf];omega
   obtain rfl:k=t:=by omega
   have ct:¬((t.length:Int) <t.length):=yE;rw[Zdq]at G;simp only[Oz]at G;rw[G]at aI;go_wp2_with fail
   go_ret;exact⟨rfl,aI,a0⟩
 have bm:((l.kind.toNat:Int)==6)=true:=H4 a7;rcases aP with h | ⟨F,ro,rfl,ar,aT⟩
 ·cases h
 obtain⟨u,aw,ax⟩:=Ee.get _ _ _ _ aT 0 yF;rw[Zaf]at aw;have bV:De s x 0 a=[z]:=by simpa[De,Lk,a7,Hl]using ag
 have aM:Tree.B3 (.node l [x])=1+x.B3:=by rw[E0,C6];simp[a7,Be,Tree.Dw]
 have a8:g<A:=yE;have bz:=ab;obtain⟨cr,aa,rfl,co,bw⟩:=bz;rcases bw with⟨h,-⟩ | ⟨D,rfl,cx,ci⟩
 ·rw[h]at a8;simp at a8
 have G:Gw s (.node l [x]) g a z A=Gw s x (g+1) a z (A.set g ((a:Int),(z:Int))):=by simp[Gw,a7,Amy]
 rw[G];have bG:(if l.kind=6 then g else 0)=g:=if_pos a7;rw[bG]at ad;have aq:(w.drewN 1).heap=w.heap:=Zhg _ _;have b5:=ad.drewN 1;have bS:=af.box.drewN 1;have aW:E7 (w.drewN 1) (.slice (some ⟨D,0,none⟩) A aa) A:=ab.C4 (fun _ _ _=>by rw[aq]) (by rw[aq];exact Zab _);have bU:(w.drewN 1).there D (g*2) 2:=by
  obtain⟨_,_,e,_,h⟩:=aW;cases e;rcases h with⟨h,-⟩ | ⟨_,e,_,h⟩
  ·rw[h]at a8;simp at a8
  cases e;exact(h g a8).2
 have b4:D≠an:=fun e=>ba (by rw[<-e];rfl)
 have cb:Kept an R (fun b=>(Value.slice (some ⟨D,0,none⟩) A aa).ownBlock=some b) w (w.drewN 1):=(Kept.refl O).drewN 1 O;have W:=Zaa aq;clear aq aF aE;go_enter func166,ntmps166
 go_upto_region 3 with fail
 refine Ce [(0,.inl none),(1,.inl none),(2,.inl none),(3,.inl (some 0)),(4,.inl none),(5,.inl none),(6,.inl none),(7,.inl (some 0)),(8,.inl none),(9,.inl none),(10,.inl none),(11,.inl none),(12,.inr ([],[]))]
  (fun _ X=>X=w.drewN 1) [0] yG yG (fun _ _=>rfl) ?_
 refine Z3s ?_;have ae:Fin (w.drewN 1) an fb gr s bq bb l5 (.slice (some ⟨D,0,none⟩) A aa):=af.move (fun _ _=>by rw[W.out]) (by rw[W.out];exact Zab _);have bP:=Cs.move (w':=w.drewN 1) (S':=gr) (fun _ _=>by rw[W.out]) (fun _ h=>h) _ _ _ _ ax;have bC:(w.drewN 1).cell? ⟨F,ro,none⟩=some u:=(Zaw (a:=⟨F,ro,none⟩) (by rw[W.out])).trans aw;have aO:=aR.move (w':=w.drewN 1) (by rw[W.out]) (fun _ _=>by rw[W.out]) (fun _ h=>h);have b2:∀b,S b->b< (w.drewN 1).heap.size:=fun b U=>by rw[W.out];exact(V b U).1
 have cn:(g:Int) <A.length:=yE;clear W ac ak;generalize w.drewN 1=wd at*
 refine Z4K ?_;refine Ba (.slice (some ⟨D,0,none⟩) A aa) yI (fun w' ay=>?_) (fun K J=>?_)
 ·subst ay
  have bt:=bS.cell (j:=2) rfl;go_simp
 refine Z2n ?_;clear J K;refine Z4K ?_;refine Ba (.int .i64 g) yI (fun w' ay=>?_) (fun K J=>?_)
 ·subst ay
  have bt:=b5.cell (j:=9) rfl;go_simp
 refine Z2n ?_;clear J K;refine Z03 ?_;refine Z03 ?_;refine Hg rfl (D8 244 _ _ rfl D (g*2) [.int .i64 a,z] rfl rfl bU yG yL) yF yF (B1 ?_);have ap:=Ao wd D [.int .i64 (a:Int),.int .i64 (z:Int)] (g*2);have ce:=aW.set (a:=none) rfl a8 (a:Int) (z:Int);have c9:Kept an R (fun b=>(Value.slice (some ⟨D,0,none⟩) A aa).ownBlock=some b) wd (wd.setCells D (g*2) [.int .i64 (a:Int),.int .i64 (z:Int)]):=Kept.G0 ap rfl b4 aO.lt;have a0:=cb.trans c9 O;have am:∀b,gr b->b≠D:=fun b U e=>b9 b U yS
 have H:∀b,b<wd.heap.size->b≠D->(wd.setCells D (g*2) [.int .i64 (a:Int),.int .i64 (z:Int)]).heap[b]? =wd.heap[b]? :=fun b h1 h2=>ap.block b h1 (fun e=>by injection e with e;exact h2 e)
 have bB:=ae.move (fun b U=>H b (ae.ns b U).1 (am b U)) ap.size;have ch:=Cs.move (S':=gr) (fun b U=>H b (ae.ns b U).1 (am b U)) (fun _ h=>h) _ _ _ _ bP;have bQ:∀b,S b->b≠D:=fun b U e=>(V b U).2.2 yS
 have bH:=aO.move (H an aO.lt (Ne.symm b4)) (fun b U=>H b (b2 b U) (bQ b U)) (fun _ h=>h);have cq:(wd.setCells D (g*2) [.int .i64 (a:Int),.int .i64 (z:Int)]).cell? ⟨F,ro,none⟩=some u:=(Zaw (a:=⟨F,ro,none⟩) (H F (ae.ns F ar).1 (am F ar))).trans bC;have b6:=b5.C4 (H b (ae.ns b U).1 (am b U));have c2:=ap.size;generalize wd.setCells D (g*2) [.int .i64 (a:Int),.int .i64 (z:Int)]=bx at*
 have bT:(A.set g ((a:Int),(z:Int))).length=A.length:=List.length_set;have aD:=ah x yF (id+1) (if l.kind=6 then g+1 else g) u a z bx S (A.set g ((a:Int),(z:Int))) bB ch (aS.sub (i:=0) yF) (fun b U=>⟨Zal (b2 b U) c2,(V b U).2⟩) bH ce bV (by rw[bT,if_pos a7];omega);rw[if_pos a7]at aD;have bZ:=Zaa aD;clear aD ah;have m10:=b6.cell (j:=10) rfl;have ac:=b6.cell (j:=0) rfl;go_wp2_with fail
 refine bZ.out.mono ?_;rintro e cj ⟨rfl,bA,au⟩;go_wp2_with fail
 go_ret;exact⟨rfl,bA,a0.trans au O⟩
end
end
end Go.Proofs.YtafmoofknjncpaaGreatDoor
