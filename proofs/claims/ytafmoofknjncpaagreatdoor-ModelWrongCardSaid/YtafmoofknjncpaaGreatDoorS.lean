/- A part of the proof that ModelWrong holds: its theorems stand as they are typed. -/
import Derived.Great.BuildSlice
import Derived.Test.YtafmoofknjncpaaGreatDoorC
set_option linter.all false
set_option maxRecDepth 100000
set_option maxHeartbeats 8000000
namespace Go.Proofs.YtafmoofknjncpaaGreatDoor
open Tryz Go.RowKit
theorem Abs:∀(l:zP) (k:Nat) (z:Array Value),k+l<=z.size->
  ((l.zipIdx k).foldl (fun(acc:Array Value) (p:Value×Nat)=>acc.setIfInBounds (0+p.2) p.1) z).toList=z.toList.take k++(l++z.toList.drop (k+l))
 | [],k,z,_=>yF
 | a::l,k,z,h=>by
  simp only[Zao]at h;have A:k<z.toList:=yJ;have D:=Abs l (k+1) (z.setIfInBounds (0+k) a) yJ;simp only[List.zipIdx_cons,Zdz];rw[D];simp only[Zac,Array.toList_setIfInBounds];rw[List.set_eq_take_append_cons_drop,if_pos A];have hA:(z.toList.take k).length=k:=wQ;have h1:(z.toList.take k++a::z.toList.drop (k+1)).take (k+1)=z.toList.take k++[a]:=by
   rw[List.take_append,hA];rw[Zfp yE,show k+1 - k=1 from yE];simp
  have h2:(z.toList.take k++a::z.toList.drop (k+1)).drop (k+1+l)=z.toList.drop (k+(l.length+1)):=by
   rw[List.drop_append,hA];rw[Zdr yE,show k+1+l.length - k=l+1 from yE,Zau,List.drop_succ_cons,List.drop_drop];congr 1;omega
  rw[h1,h2];simp
theorem Al7 (K:Nat) (z cs:Array Value) (D:z.size=K) (A:cs.size=K):Instr.fill (fun i=>some (i*K,K)) z [(0,.agg cs)]=some cs:=by
 unfold Instr.fill;simp only[Zgl];rw[if_neg (by simp[Value.cells,D,A])];unfold Instr.fill;congr 1;apply Array.toList_inj.1;have h:=Abs cs.toList 0 z (by simp[D,A]);simp only[Zfr,Zau,Zac]at h;rw[Zdr (by simp[D,A]),Zdk]at h;rw[<-h,<-Array.foldl_toList,Array.toList_zipIdx];simp[Value.cells]
theorem Af2 {P:Program} (t e:TypeId) (K bytes:Nat) (hu:P.underlying t=some (.slice e)) (A:(P.info? e).map (fun i=>(i.size,i.bytes,i.zero.map fun z=>z.cells.size))=some (K,bytes,some K)) (J:0<K) (M:K<=1000) (cs:Array Value) (H:cs.size=K) (W:zN):
  (Instr.buildSlice t 1 #[(0,.agg cs)]).run P W=.ok (.slice (some ⟨W,0,none⟩) 1 1) (W.alloc (.cells cs e)):=by
 cases D:P.info? e with
 | none=>rw[D]at A;cases A
 | some G=>
  rw[D]at A;simp only[Zaj,Zbb,Zgr]at A;obtain⟨h1,h2,h3⟩:=A;cases F:G.zero with
  | none=>rw[F]at h3;cases h3
  | some z=>
   rw[F]at h3;simp only[Zaj,Zbb]at h3;refine run_buildSlice W t e 1 _ cs G z hu D F (by rw[h1];omega) (by rw[h1];omega) ?_;rw[h1];exact Al7 K _ cs yF H
theorem Iq {P:Program} {ops:Array Oper} {rest:List Oper} {o:Oper} {a:Act} {w:zN} {Q:Exit->Act->World->Prop} {t e:TypeId} {K bytes:Nat} {x:Operand} {cs:Array Value} (hu:P.underlying t=some (.slice e)) (D:(P.info? e).map (fun i=>(i.size,i.bytes,i.zero.map fun z=>z.cells.size))=some (K,bytes,some K)) (J:0<K/\K<=1000)
  (F:o.guard=none) (H:o.op=.buildSlice t 1 #[(0,x)]) (a1:a.eval x=.agg cs) (G:cs.size=K) (h:wpList P ops Q rest (a.put o.dst (.slice (some ⟨w,0,none⟩) 1 1)) (w.alloc (.cells cs e))):wpList P ops Q (o::rest) a w:=by
 refine Zik F fun M A=>?_
 unfold Oper.wp execOp
 have hp:(#[(0,x)]:Array (Nat×Operand)).map (fun(i,x)=>(i,a.eval x))=#[(0,Value.agg cs)]:=xP
 simp only[H,hp,Zgv,Af2 t e K bytes hu D J.1 J.2 cs G w,Zgu]
 exact A _ _ h
end Go.Proofs.YtafmoofknjncpaaGreatDoor
