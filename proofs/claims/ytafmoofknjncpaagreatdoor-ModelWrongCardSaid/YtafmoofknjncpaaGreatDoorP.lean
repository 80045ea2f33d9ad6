/- A part of the proof that ModelWrong holds: its theorems stand as they are typed. -/
import Derived.Laws.EntriesVeiled
import Derived.Test.YtafmoofknjncpaaGreatDoorH
set_option linter.all false
set_option maxRecDepth 100000
set_option maxHeartbeats 8000000
namespace Go.Proofs.YtafmoofknjncpaaGreatDoor
section
open Tryz Go.RowKit Go.Shelf
def Gn:Array Value:=
      #[Value.string {data:=#[]},Value.nilFunc,Value.string {data:=#[45]},
       Value.func (Fn.func 324) #[] #[],Value.string {data:=#[43]},Value.func (Fn.func 325) #[] #[],
       Value.string {data:=#[45]},Value.func (Fn.func 326) #[] #[],Value.string {data:=#[42]},
       Value.func (Fn.func 327) #[] #[],Value.string {data:=#[47]},Value.func (Fn.func 328) #[] #[],
       Value.string {data:=#[109,105,110]},Value.func (Fn.func 329) #[] #[],
       Value.string {data:=#[109,97,120]},Value.func (Fn.func 330) #[] #[]]
theorem X6 (w:zN):
  Calls prog 301 #[] w fun e w'=>e=.returned (.agg Gn)/\w.alloc (.cells Gn 399)=w':=by
 unfold Gn
 go_enter func301,ntmps301
 go_wp2
 refine Zho (v:=.agg #[Value.string {data:=#[]},Value.nilFunc,Value.string {data:=#[45]},
       Value.func (Fn.func 324) #[] #[],Value.string {data:=#[43]},Value.func (Fn.func 325) #[] #[],
       Value.string {data:=#[45]},Value.func (Fn.func 326) #[] #[],Value.string {data:=#[42]},
       Value.func (Fn.func 327) #[] #[],Value.string {data:=#[47]},Value.func (Fn.func 328) #[] #[],
       Value.string {data:=#[109,105,110]},Value.func (Fn.func 329) #[] #[],
       Value.string {data:=#[109,97,120]},Value.func (Fn.func 330) #[] #[]]) (by simp[results,results301,go_sem]) rfl ⟨rfl,rfl⟩
end
section
open Tryz Go.RowKit Ieee
theorem Ox (d:Datum) (h:d.isNaN=false):Gq (double.write d)=false:=by
 cases d with
 | nan s t=>cases h
 | infinity s=>exact Ua s _ (by rw[Q9];exact Zab _)
 | number s m p=>
  show Gq (double.nearest s m p)=false;unfold Format.nearest;by_cases hm:m=0
  ·rw[if_pos hm];exact Ua s 0 yE
  rw[if_neg hm];exact Ua s _ (by rw[<-Q9];exact Nat.min_le_right _ _)
theorem Aez {a b d:Datum} (h:a.sum b=some d):d.isNaN=false:=by
 unfold Datum.sum at h;split at h
 ·cases h
 ·cases h
 ·split at h
  ·cases h;rfl
  cases h
 ·cases h;rfl
 ·cases h;rfl
 cases h;rfl
theorem Adq {a b d:Datum} (h:a.product b=some d):d.isNaN=false:=by
 unfold Datum.product at h;split at h
 ·cases h
 ·cases h
 ·cases h;rfl
 ·split at h
  ·cases h
  cases h;rfl
 ·split at h
  ·cases h
  cases h;rfl
 cases h;rfl
theorem Aa0 {n:Nat} {a b d:Datum} (h:a.quotient n b=some d):d.isNaN=false:=by
 unfold Datum.quotient at h;split at h
 ·cases h
 ·cases h
 ·cases h
 ·cases h;rfl
 ·cases h;rfl
 split at h
 ·split at h
  ·cases h
  cases h;rfl
 cases h;rfl
theorem Aki {op:BinOp} {x y r:Nat} (h:floatBits op .f64 x y=some r):Gq r=false/\r<2^64:=by
 refine⟨?_,?_⟩
 ·unfold floatBits at h
  cases op<;>simp only[]at h<;>first | (cases h;done) | skip
  ·change ((double.read x).sum (double.read y)).map double.write=some r at h
   obtain⟨d,A,rfl⟩:=Zgp.1 h;exact Ox d (Aez A)
  ·change ((double.read x).sum (double.read y).opposite).map double.write=some r at h
   obtain⟨d,A,rfl⟩:=Zgp.1 h;exact Ox d (Aez A)
  ·change ((double.read x).product (double.read y)).map double.write=some r at h
   obtain⟨d,A,rfl⟩:=Zgp.1 h;exact Ox d (Adq A)
  change ((double.read x).quotient (double.fractionBits+2) (double.read y)).map double.write=some r at h
  obtain⟨d,A,rfl⟩:=Zgp.1 h;exact Ox d (Aa0 A)
 have:=floatBits_wf h;simp only[Lit.wf]at this;simpa using this
def Lq (op:BinOp) (x y:Nat):Nat:=(floatBits op .f64 x y).getD Gr
def J1 (op:BinOp):Prop:=op=.add\/op=.sub\/op=.mul\/op=.quo
theorem Afc (t x y:Nat):Gq ((Question.nanBits .f64 x y).cut t)=true/\(Question.nanBits .f64 x y).cut t<2^64:=by
 have e:(Question.nanBits .f64 x y).cut t=t%2*9223372036854775808+9218868437227405312+1+t / 2%4503599627370495:=rfl;rw[e];have h1:t%2<2:=Zgd _ yH;have h2:t / 2%4503599627370495<4503599627370495:=Zgd _ yH;generalize t%2=a at h1|-;generalize t / 2%4503599627370495=b at h2|-;unfold Gq;have:a=0\/a=1:=yE;rcases this with rfl | rfl
 ·exact⟨Zht yE,yE⟩
 exact⟨Zht yE,yE⟩
theorem R6 (op:BinOp) (F:J1 op) (x y:Nat) (w:zN):
  ∃r A,(binOp op 49 (.float .f64 x) (.float .f64 y)).run prog w=.ok (.float .f64 r) A/\B7 r=Lq op x y/\r<2^64/\Below w w A/\A.heap.size=w.heap.size:=by
 unfold Lq
 cases h:floatBits op .f64 x y with
 | some r=>
  obtain⟨a,b⟩:=Aki h;exact⟨r,w,run_float_arith w op 49 .f64 x y r h,Ahh a,b,Zai _ _,rfl⟩
 | none=>
  obtain⟨t,D⟩:∃t,t=(Question.nanBits .f64 x y).cut (w.tape w.drawn (Question.nanBits .f64 x y)):=⟨_,rfl⟩;have e:(binOp op 49 (.float .f64 x) (.float .f64 y)).run prog w=.ok (.float .f64 t) w.drew:=by
   rw[D];rcases F with rfl | rfl | rfl | rfl<;>(unfold floatBits at h;simp only[]at h;simp[binOp,Op.floatArith,h,run_choose,Question.forced]<;>rfl)
  refine⟨t,w.drew,e,?_,?_,(Zai _ _).drew,rfl⟩
  ·rw[Ahi (D▸(Afc _ x y).1)];rfl
  rw[D];exact(Afc _ x y).2
end
end Go.Proofs.YtafmoofknjncpaaGreatDoor
