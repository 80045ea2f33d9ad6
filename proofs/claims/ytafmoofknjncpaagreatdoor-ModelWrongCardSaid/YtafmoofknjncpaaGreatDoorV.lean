/- A part of the proof that ModelWrong holds: its theorems stand as they are typed. -/
import Derived.Great.BuildSlice
import Derived.Test.YtafmoofknjncpaaGreatDoorQ
set_option linter.all false
set_option maxRecDepth 100000
set_option maxHeartbeats 8000000
namespace Go.Proofs.YtafmoofknjncpaaGreatDoor
section
open Tryz Go.RowKit
theorem B4 {a b:Nat} (h:a≠b):some a≠some b:=yV
theorem Agn {P:Program} {o:Oper} {a:Act} {w w':zN} {v:Value} {K:Act->World->Prop} (h:(execOp a.eval o).run P w=.ok (.value v) w') (J:K (a.put o.dst v) w'):Ka P o a w K:=by
 unfold Ka;rw[h];exact J
theorem Adu {P:Program} {o:Oper} {a:Act} {w w':zN} {K:Act->World->Prop} (h:(execOp a.eval o).run P w=.ok .skip w') (J:K (a.put o.dst undef) w'):Ka P o a w K:=by
 unfold Ka;rw[h];exact J
theorem N8 {o:Oper} (h:o.guard=none) (y:Nat->Option Bool):Region.wanted o y=true:=by simp[Region.wanted,h]
theorem M5 {P:Program} {ops:Array Oper} {L:Act->World->Prop} {c:Nat->World->Prop} {a:Act} {w w':zN} {o:Oper} {r:List (Oper×Mx)} {ks:List Nat×List Nat} {v:Value} (D:o.guard=none) (h:(execOp a.eval o).run P w=.ok (.value v) w')
  (h1:∀k∈ks.1,c k w') (h2:∀k∈ks.2,c k w->c k w') (A:C8 P ops c L r (a.put o.dst v) w'):C8 P ops c L ((o,.inr ks)::r) a w:=by
 simp only[C8]
 rw[if_pos (N8 D _)]
 exact Agn h ⟨⟨h1,h2⟩,A⟩
theorem Ae6 {P:Program} {ops:Array Oper} {L:Act->World->Prop} {c:Nat->World->Prop} {a:Act} {w w':zN} {o:Oper} {r:List (Oper×Mx)} {ks:List Nat×List Nat} (D:o.guard=none) (h:(execOp a.eval o).run P w=.ok .skip w')
  (h1:∀k∈ks.1,c k w') (h2:∀k∈ks.2,c k w->c k w') (A:C8 P ops c L r (a.put o.dst undef) w'):C8 P ops c L ((o,.inr ks)::r) a w:=by
 simp only[C8]
 rw[if_pos (N8 D _)]
 exact Adu h ⟨⟨h1,h2⟩,A⟩
theorem Gx {P:Program} {ops:Array Oper} {L:Act->World->Prop} {c:Nat->World->Prop} {a:Act} {w:zN} {o:Oper} {r:List (Oper×Mx)} {k:Option Nat} {v:Value} (D:o.guard=none) (h:∀W,cls c k W->(execOp a.eval o).run P W=.ok (.value v) W)
  (A:C8 P ops c L r (a.put o.dst v) w):C8 P ops c L ((o,.inl k)::r) a w:=by
 simp only[C8]
 rw[if_pos (N8 D _)]
 exact⟨v,fun W F=>by rw[h W F];exact⟨rfl,rfl⟩,A⟩
theorem O4 {P:Program} {o:Oper} {a:Act} {w w':zN} {v:Value} (t:TypeId) (len:Nat) (Ay:Array (Nat×Operand)) (A:Array (Nat×Value)) (D:o.op=.buildSlice t len Ay) (h:(Instr.buildSlice t len A).run P w=.ok v w')
  (hp:(Ay.map fun(i,x)=>(i,a.eval x))=A):(execOp a.eval o).run P w=.ok (.value v) w':=by
 unfold execOp
 simp only[D,hp,Zgv,h,Zgu]
 rfl
theorem U8 (len:Nat) (F:Array (Nat×Value)) (cs:Array Value) (H:len<=1000) (J:0<len) (h:Instr.fill (fun i=>some (i*1,1)) ((Array.range (len*1)).map ((Value.string ⟨#[]⟩).cells[·%(Value.string ⟨#[]⟩).cells.size]!)) F.toList=some cs) (W:zN):
  (Instr.buildSlice 85 len F).run prog W=.ok (.slice (some ⟨W,0,none⟩) len len) (W.alloc (.cells cs 9)):=by
 have A:(prog.info? 9).map (fun i=>(i.size,i.zero))=some (1,some (.string ⟨#[]⟩)):=yG
 cases D:prog.info? 9 with
 | none=>rw[D]at A;cases A
 | some G=>
  rw[D]at A;simp only[Zaj,Zbb,Zgr]at A;exact run_buildSlice W 85 9 len F cs G _ yG D A.2 (by rw[A.1];omega) (by rw[A.1];omega) (by rw[A.1];exact h)
theorem P6 {P:Program} {ops:Array Oper} {L:Act->World->Prop} {c:Nat->World->Prop} {α:Type} {I:World->(Nat->Prop)->α->List Value->Prop} (hI:Cp I) {a:Act} {w:zN} {A D F G:Oper} {M:List Nat}
  (g1:A.guard=none) (g2:D.guard=none) (g3:F.guard=none) (g4:G.guard=none) (s H:Operand) (t:TypeId) (ac:D.op=.call {callee:=.builtin .append,args:=#[s,H],argTypes:=#[t,t]})
  (lo:Nat) (e:TypeId) (K bytes:Nat) (a7:P.underlying t=some (.slice e)) (V:(P.info? e).map (fun i=>(i.size,i.bytes,i.zero.map fun z=>z.cells.size))=some (K,bytes,some K)) (J:0<K)
  (l:List α) (v:Value) (Y:Au (A2 I lo) lo e K w l v) (y:α) (cs:zP) (hy:A2 I lo w (fun b=>b<w.heap.size/\some b≠v.ownBlock) y cs) (a1:cs=K) (h1:∀u∈cs,u.oneCell'=true)
  (h63:l.length+1<=maxLen) (T:(l.length+1)*bytes<=140737488355328) (ab:lo<=w)
  (ca j:Nat) (k9:TypeId) (cells:zP) (bt:ca<lo) (c5:w.heap[ca]? =some (.cells cells.toArray k9 (0,0))) (av:cells[j]? =some v)
  (a5:∀W:World,(execOp a.eval A).run P W=.ok (.value (.slice (some ⟨W,0,none⟩) 1 1)) (W.alloc (.cells cs.toArray e)))
  (a2:∀u,(a.put A.dst u).eval s=v/\(a.put A.dst u).eval H=u)
  (gj:∀u a0 W,(execOp ((a.put A.dst u).put D.dst a0).eval F).run P W=.ok (.value (.pointer (some ⟨ca,j,none⟩))) W)
  (yo:∀u ak O ax (W:zN),W.cell? ⟨ca,j,none⟩=some v->W.frozen? ⟨ca,j,none⟩=false->(execOp (((a.put A.dst u).put D.dst (.slice ak O ax)).put F.dst (.pointer (some ⟨ca,j,none⟩))).eval G).run P W=.ok .skip (W.setCell ⟨ca,j,none⟩ (.slice ak O ax)))
  (a6:∀k∈M,c k w->c k (w.alloc (.cells cs.toArray e)))
  (h:∀ak ax w',Au (A2 I lo) lo e K w' (l++[y]) (.slice ak (l+1) ax)->l.length+1<=ax->w'.heap[ca]? =some (.cells (cells.set j (.slice ak (l+1) ax)).toArray k9 (0,0))->(∀b,b<w.heap.size->b≠ca->some b≠v.ownBlock->w'.heap[b]? =w.heap[b]?)->Below ca w w'->w.heap.size<w'.heap.size->((Value.slice ak (l+1) ax).ownBlock=v.ownBlock\/∃g,(Value.slice ak (l+1) ax).ownBlock=some g/\w.heap.size<=g)->
   L ((((a.put A.dst (.slice (some ⟨w,0,none⟩) 1 1)).put D.dst (.slice ak (l+1) ax)).put F.dst (.pointer (some ⟨ca,j,none⟩))).put G.dst undef) w'):
  C8 P ops c L [(A,.inr ([],M)),(D,.inr ([],[])),(F,.inl none),(G,.inr ([],[]))] a w:=by
 refine M5 g1 (a5 w) yF a6 ?_
 obtain⟨a3,a4⟩:=a2 (.slice (some ⟨w,0,none⟩) 1 1)
 refine A1 (ks:=([],[])) g2 (fun ae a9=>?_)
 refine Am (A2.Ab hI lo) g2 s H t ac lo e K bytes a7 V J l v a3 Y y cs a4 rfl hy a1 h1 h63 T ab ?_
 intro ak ax a8 jx p9 aa dr ad jy
 refine Z4a ?_
 refine a9 _ _ yF yF ?_
 exact Z0J
theorem Lp {wc w w':zN} {A:Nat} {v:Value} (h:wc.grownBy w (some A)) (U:Below A w w') (G:∀b,b<w.heap.size->b≠A->some b≠v.ownBlock->w'.heap[b]? =w.heap[b]?) (H:∀k,v.ownBlock=some k->wc.heap.size<=k):wc.grownBy w' (some A):=
 ⟨U.os.trans h.os,U.tape.trans h.tape,U.output.trans h.output,Zag h.size U.size,fun k F D=>
  (G k (Zal F h.size) (fun e=>D (by rw[e])) (fun e=>by have:=H k e.symm;omega)).trans (h.block k F D)⟩
theorem lv1 {p:zT} (h:p 0):∀k,[0].contains k=true->p k:=by
 intro k A;simp only[Zdn,List.contains_nil,Zcm,Zhn]at A;subst A;exact h
theorem lv2 {p:zT} (h:p 0) (D:p 1):∀k,[0,1].contains k=true->p k:=by
 intro k A;simp only[Zdn,List.contains_nil,Zcm,Zcl,Zhn]at A;rcases A with rfl | rfl
 ·exact h
 exact D
end
section
open Tryz Go.RowKit
theorem Kv {w:zN} {b:Nat} {o:Obj} (h:w.heap[b]? =some o) (A:Obj):(w.alloc A).heap[b]? =some o:=by
 have D:b<w:=(Zbx.1 h).1;exact((Af (w:=w) A).block b D).trans h
theorem G4 {w:zN} {k:Nat} (o:Obj) (A:w=k):(w.alloc o).heap[k]? =some o:=by
 subst A;exact Zhe w o
theorem Akp {P:Program} {o:Oper} {a:Act} {w:zN} {v u:Value} (s d:TypeId) (x:Operand) (D:o.op=.convert s d x) (A:a.eval x=v) (h:(convert s d v).run P w=.ok u w):(execOp a.eval o).run P w=.ok (.value u) w:=by
 unfold execOp;simp only[D,A,Zgv,h,Zgu];rfl
theorem Ann {P:Program} {o:Oper} {a:Act} {w:zN} {v u r:Value} (t G:TypeId) (x y:Operand) (F:o.op=.binOp .quo t x y G) (A:a.eval x=v) (hy:a.eval y=u) (h:(binOp .quo t v u).run P w=.ok r w):(execOp a.eval o).run P w=.ok (.value r) w:=by
 unfold execOp;simp only[F,A,hy];have D:eqGuard .quo t x y v u=pure ():=rfl;simp only[D,Zgv,Zgw,h,Zgu]
theorem Yy {wc w w':zN} {row:Option Nat} (h:wc.grownBy w row) (U:Below wc w w'):wc.grownBy w' row:=
 ⟨U.os.trans h.os,U.tape.trans h.tape,U.output.trans h.output,Zag h.size U.size,fun k A D=>(U.block k A).trans (h.block k A D)⟩
end
end Go.Proofs.YtafmoofknjncpaaGreatDoor
