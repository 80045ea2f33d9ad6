/- A part of the proof that ModelWrong holds: its theorems stand as they are typed. -/
import Derived.Test.YtafmoofknjncpaaGreatDoorC
set_option linter.all false
set_option maxRecDepth 100000
set_option maxHeartbeats 8000000
namespace Go.Proofs.YtafmoofknjncpaaGreatDoor
section
open Tryz Go.RowKit Go.Shelf
theorem Sl (a b:zO) (c d:Nat) (A:Value) (w:zN):
  Calls prog 261 #[.slice a 0 c,.slice b 0 d,A] w fun e w'=>e=.returned (.bool true)/\w=w':=by
 go_enter func261,ntmps261
 exact Z1F
theorem Sm (a b:zO) (c d:Nat) (A:Value) (w:zN):
  Calls prog 283 #[.slice a 0 c,.slice b 0 d,A] w fun e w'=>e=.returned (.bool true)/\w=w':=by
 go_enter func283,ntmps283
 exact Z1F
theorem Ah4 (v1 v2 v3 v4 v5 v6 v7:Value) (k:UInt8) (A:¬k=0) (w:zN):
  Calls prog 236 #[.agg #[k,v1,v2,v3,v4,v5,v6,v7],.agg zV] w fun e w'=>e=.returned (.bool false)/\Below w w w':=by
 have D:=D4 A
 have F:((k.toNat:Int)==0)=false:=D
 clear D A
 go_enter func236,ntmps236
 exact Z27
theorem Afy (a b:zO) (c d:Nat) (w:zN):
  Calls prog 236 #[.agg #[zJ,zI,zI,zI,zI,zE,zE,.slice a 0 c],.agg #[zJ,zI,zI,zI,zI,zE,zE,.slice b 0 d]] w fun e w'=>e=.returned (.bool true)/\Below w w w':=by
 have D:=Mv
 go_enter func236,ntmps236
 go_wp2_with fail
 refine(Sl a b c d _ _).mono ?_
 rintro e A ⟨rfl,rfl⟩
 exact Z27
def Jn:Rx:=.node ⟨0,0,0,0,0,0,0⟩ []
theorem Qh (w:zN) (n:Nat) (a:zO) (c:Nat):Bo w n Jn [zJ,zI,zI,zI,zI,zE,zE,.slice a 0 c]:=
 Tree.In.shut (E:=Cc.cells) (l:=⟨0,0,0,0,0,0,0⟩) (Zap _) (.inl rfl)
theorem Ah7 (t:Rx) (cs:zP) (w:zN) (n:Nat) (U:t.size<=10000) (F:¬t.Cx=0) (G:n<=w) (A:Bo w n t cs):
  Calls prog 207 #[.agg cs.toArray,.agg zV] w fun e w'=>e=.returned (.bool false)/\Below w w w':=by
 obtain⟨a,c,rfl⟩:=Bo.shape A
 have c0:Below w w ((w.alloc (.cells #[t.Ak.kind,t.Ak.s0,t.Ak.s1,t.Ak.s2,t.Ak.s3,t.Ak.mn,t.Ak.mx,.slice a t.Cb c] 43)).alloc (.cells zV 43)):=(Af _).alloc yF _
 have df:=Aa (Ae w [t.Ak.kind,t.Ak.s0,t.Ak.s1,t.Ak.s2,t.Ak.s3,t.Ak.mn,t.Ak.mx,.slice a t.Cb c] 43) (Af (w:=w.alloc (.cells #[t.Ak.kind,t.Ak.s0,t.Ak.s1,t.Ak.s2,t.Ak.s3,t.Ak.mn,t.Ak.mx,.slice a t.Cb c] 43)) (.cells zV 43)) yF
 have aW:((w.alloc (.cells #[t.Ak.kind,t.Ak.s0,t.Ak.s1,t.Ak.s2,t.Ak.s3,t.Ak.mn,t.Ak.mx,.slice a t.Cb c] 43)).alloc (.cells zV 43)).rangeAt (w+1) 0 zZ:=by
  have:=Ae (w.alloc (.cells #[t.Ak.kind,t.Ak.s0,t.Ak.s1,t.Ak.s2,t.Ak.s3,t.Ak.mn,t.Ak.mx,.slice a t.Cb c] 43)) zZ 43;exact Z1z
 have D:=A.below (c0.mono G)
 go_enter func207,ntmps207
 go_wp2_with fail
 refine(Iz t _ _ n U yJ D).mono ?_
 refine Z1a ?_
 intro a8 aa b7 n9 uj dc bno bnp bnq bnr bns
 have a0:=n9 5 _ rfl
 have a1:=n9 6 _ rfl
 have a2:=n9 7 _ rfl
 simp only[Zac]at bno bnp bnq bnr bns a0 a1 a2
 clear aW c0 D aa df
 go_wp2_with fail
 refine(Iz Jn _ _ 0 yH (Zap _) (Qh _ 0 none 0)).mono ?_
 refine Z2V ?_
 intro ad af ha p3 so bnj bnk bnl bnm bnn
 have V:=ha 5 _ rfl
 have W:=ha 6 _ rfl
 have Y:=ha 7 _ rfl
 simp only[Zac]at bnj bnk bnl bnm bnn V W Y
 have H:=p3 0 _ rfl
 have J:=p3 1 _ rfl
 have M:=p3 2 _ rfl
 have O:=p3 3 _ rfl
 have T:=p3 4 _ rfl
 have a3:=p3 5 _ rfl
 have a4:=p3 6 _ rfl
 have a5:=p3 7 _ rfl
 simp only[Zac]at H J M O T a3 a4 a5
 clear b7 n9 uj af
 go_wp2_with fail
 refine(Ah4 _ _ _ _ _ _ _ t.Ak.kind F _).mono ?_
 exact Z3I
theorem Qs (a:zO) (c:Nat) (w:zN):
  Calls prog 207 #[.agg #[zJ,zI,zI,zI,zI,zE,zE,.slice a 0 c],.agg zV] w fun e w'=>e=.returned (.bool true)/\Below w w w':=by
 have c0:Below w w ((w.alloc (.cells #[zJ,zI,zI,zI,zI,zE,zE,.slice a 0 c] 43)).alloc (.cells zV 43)):=(Af _).alloc yF _
 have df:=Aa (Ae w [zJ,zI,zI,zI,zI,zE,zE,.slice a 0 c] 43) (Af (w:=w.alloc (.cells #[zJ,zI,zI,zI,zI,zE,zE,.slice a 0 c] 43)) (.cells zV 43)) yF
 have aW:((w.alloc (.cells #[zJ,zI,zI,zI,zI,zE,zE,.slice a 0 c] 43)).alloc (.cells zV 43)).rangeAt (w+1) 0 zZ:=by
  have:=Ae (w.alloc (.cells #[zJ,zI,zI,zI,zI,zE,zE,.slice a 0 c] 43)) zZ 43;exact Z1z
 go_enter func207,ntmps207
 go_wp2_with fail
 refine(Iz Jn _ _ 0 yH (Zap _) (Qh _ 0 a c)).mono ?_
 refine Z1a ?_
 intro a8 aa b7 n9 uj dc bno bnp bnq bnr bns
 have T:=n9 5 _ rfl
 have U:=n9 6 _ rfl
 have V:=n9 7 _ rfl
 simp only[Zac]at bno bnp bnq bnr bns T U V
 clear aW c0 aa df
 go_wp2_with fail
 refine(Iz Jn _ _ 0 yH (Zap _) (Qh _ 0 none 0)).mono ?_
 refine Z2V ?_
 intro ad af ha p3 so bnj bnk bnl bnm bnn
 have J:=ha 5 _ rfl
 have M:=ha 6 _ rfl
 have O:=ha 7 _ rfl
 simp only[Zac]at bnj bnk bnl bnm bnn J M O
 have A:=p3 0 _ rfl
 have D:=p3 1 _ rfl
 have F:=p3 2 _ rfl
 have G:=p3 3 _ rfl
 have H:=p3 4 _ rfl
 have W:=p3 5 _ rfl
 have Y:=p3 6 _ rfl
 have a0:=p3 7 _ rfl
 simp only[Zac]at A D F G H W Y a0
 clear b7 n9 uj af
 go_wp2_with fail
 refine(Afy _ _ _ _ _).mono ?_
 exact Z3I
end
section
open Tryz Go.RowKit Go.Shelf
theorem R1 {w:zN} {base K n:Nat} {e:TypeId} {v:Value} {A:List (List Value)} (J:∀i (h:i<A.length),A[i].length=K) (T:n=A) (h:w.ownsRow base e K v n A.flatten):
  ∃a c,v=.slice a A c/\A.length<=c/\(A=[]\/∃g cur,a=some ⟨g,0,none⟩/\base<=g/\g<w.heap.size/\w.heap[g]? =some (.cells cur e (0,0))/\∀i (h:i<A.length),w.rangeAt g (i*K) A[i]):=by
 subst T
 obtain⟨M,⟨rfl,h0⟩ | ⟨g,cap,cur,rfl,U,D,H,a0,W,O⟩⟩:=h
 ·exact⟨none,0,by rw[h0],yE,.inl (Zds h0)⟩
 refine⟨some ⟨g,0,none⟩,cap,rfl,H,.inr ⟨g,cur,rfl,U,(Zbx.1 D).1,D,fun i ae j u hu=>?_⟩⟩
 have Y:j<K:=by rw[<-J i ae];exact(Zeg.1 hu).1
 have F:A.flatten[i*K+j]? =some u:=by
  clear M O D W
  induction A generalizing i with
  | nil=>simp at ae
  | cons x xs V=>
   have G:x=K:=J 0 yF;cases i with
   | zero=>simp only[Zdy,Zgl,Zac];rw[Zbp yE];simpa using hu
   | succ i=>
    simp only[Zdy];rw[Zee (by rw[G,Zfy];omega),G,show(i+1)*K+j - K=i*K+j by rw[Zfy];omega];exact V (fun i h=>by have:=J (i+1) yV;simpa using this) (by simp only[Zao]at H;omega) i xE (by simpa using hu)
 have h2:(i*K+j) <A.length*K:=by
  have:=(Zeg.1 F).1;rw[M]at this;exact this
 have h3:cur.toList[i*K+j]? =some u:=by
  rw[<-O,Zeh]at F;rw[if_pos h2]at F;exact F
 simp only[World.cell?,D]
 simpa using h3
theorem Jk {w:zN} {n K:Nat} {b o:Nat} {A:List (List Value)} (D:∀i (h:i<A.length),w.rangeAt b (o+i*K) A[i]/\A[i].length=K):
  ∀j u,A.flatten[j]? =some u->w.cell? ⟨b,o+j,none⟩=some u:=by
 induction A generalizing o with
 | nil=>intro j u h;simp at h
 | cons x xs G=>
  intro j u h;have h0:=D 0 yF;simp only[Zek,Zgl,Zaf]at h0;simp only[Zdy]at h;by_cases F:j<x.length
  ·rw[Zbp F]at h;exact h0.1 j u h
  rw[Zee yE]at h;have:=G (o:=o+K) (fun i h=>by have:=D (i+1) yV;simp only[List.getElem_cons_succ]at this;rwa[show o+(i+1)*K=o+K+i*K by rw[Nat.add_mul];omega]at this) (j - x.length) u h;rwa[show o+K+(j - x.length)=o+j by have:=h0.2;omega]at this
theorem Kf {K:Nat} {A:List (List Value)} (J:∀i (h:i<A.length),A[i].length=K):A.flatten.length=A*K:=by
 induction A with
 | nil=>simp
 | cons x xs D=>
  have h0:x=K:=J 0 yF;have:=D (fun i h=>by have:=J (i+1) yV;simpa using this);simp only[Zdy,Zbj,Zao,this,h0,Zfy];omega
theorem Ad2:(prog.info? 43).map (fun i=>(i.zero,i.size,i.bytes))=some (some (.agg zV),8,80):=yG
theorem Ab3 (A:List (List Value)) (a:zO) (c:Nat) (w:zN) (n:Nat) (a4:n<=w) (hlen:A.length<=1000000) (F:Bs w n 8 a A) (O:a=none->A=[]) (h1:∀u∈A.flatten,u.oneCell'=true):
  Calls prog 116 #[.slice a A c] w fun e w'=>∃D,e=.returned D/\w'.ownsRow w 43 8 D A A.flatten/\Below w w w':=by
 obtain⟨a1,G,W,V,Y⟩:=info_parts Ad2
 have hu:prog.underlying 41=some (.slice 43):=yG
 have a3:∀(w:zN) (a:zO) (n c M H:Nat),(binOp .eql 41 (.slice a n c) (.slice none M H)).run prog w=.ok (.bool a.isNone) w:=fun w a n c M H=>Zdf w _ _ a n c M H hu
 cases a with
 | none=>
  obtain rfl:=O rfl;go_enter func116,ntmps116
  go_wp2;go_ret;exact⟨_,rfl,Zhi w _ _ _,Zai _ _⟩
 | some T=>
  have J:Hid (A.flatten.length=A*8):=Zaa (by
   rcases F with rfl | ⟨b,o,e,U,h⟩
   ·rfl
   exact Kf (fun i G=>(h i G).2))
  have bX:Hid (∀j u,A.flatten[j]? =some u->w.cell? (T.add j)=some u):=Zaa (by
   rcases F with rfl | ⟨b,o,e,U,h⟩
   ·intro j u av;simp at av
   cases e;intro j u av;rw[Zbu];exact Jk (n:=n) h j u av)
  have H1:=Zaa h1;clear h1 O F;go_enter func116,ntmps116
  go_wp2_with (at_builtin;refine Zij _ rfl _ _ 41 rfl w.heap.size 43 a1 (.agg zV) 8 80 hu G W V Y rfl yH _ _ _ rfl (Zhh w #[] 0 (Zab _) (Zap _) rfl) T A c A.flatten rfl ?qc1 ?qc2 ?qc3 ?qc4 ?qc5 ?qc6 ?_)
  case qc1=>exact J.out
  case qc2=>
   exact Z1V
  case qc3=>exact H1.out
  case qc4=>unfold maxLen;omega
  case qc5=>omega
  case qc6=>simp
  intro D a2 jy a0 a5;go_wp2;go_ret;refine⟨D,rfl,uK,?_⟩;exact((Zai _ w).alloc (Zab _) _).grown a0 yF vU
theorem Ad3:(prog.info? 118).map (fun i=>(i.zero,i.size,i.bytes))=some (some (.agg #[zJ,zD,ByteArray.empty,zE,zH]),5,64):=yG
theorem Ab4 (A:List (List Value)) (a:zO) (c:Nat) (w:zN) (n:Nat) (a4:n<=w) (hlen:A.length<=1000000) (F:Bs w n 5 a A) (O:a=none->A=[]) (h1:∀u∈A.flatten,u.oneCell'=true):
  Calls prog 117 #[.slice a A c] w fun e w'=>∃D,e=.returned D/\w'.ownsRow w 118 5 D A A.flatten/\Below w w w':=by
 obtain⟨a1,G,W,V,Y⟩:=info_parts Ad3
 have hu:prog.underlying 116=some (.slice 118):=yG
 have a3:∀(w:zN) (a:zO) (n c M H:Nat),(binOp .eql 116 (.slice a n c) (.slice none M H)).run prog w=.ok (.bool a.isNone) w:=fun w a n c M H=>Zdf w _ _ a n c M H hu
 cases a with
 | none=>
  obtain rfl:=O rfl;go_enter func117,ntmps117
  go_wp2;go_ret;exact⟨_,rfl,Zhi w _ _ _,Zai _ _⟩
 | some T=>
  have J:Hid (A.flatten.length=A*5):=Zaa (by
   rcases F with rfl | ⟨b,o,e,U,h⟩
   ·rfl
   exact Kf (fun i G=>(h i G).2))
  have bX:Hid (∀j u,A.flatten[j]? =some u->w.cell? (T.add j)=some u):=Zaa (by
   rcases F with rfl | ⟨b,o,e,U,h⟩
   ·intro j u av;simp at av
   cases e;intro j u av;rw[Zbu];exact Jk (n:=n) h j u av)
  have H1:=Zaa h1;clear h1 O F;go_enter func117,ntmps117
  go_wp2_with (at_builtin;refine Zij _ rfl _ _ 116 rfl w.heap.size 118 a1 (.agg #[zJ,zD,ByteArray.empty,zE,zH]) 5 64 hu G W V Y rfl yH _ _ _ rfl (Zhh w #[] 0 (Zab _) (Zap _) rfl) T A c A.flatten rfl ?qc1 ?qc2 ?qc3 ?qc4 ?qc5 ?qc6 ?_)
  case qc1=>exact J.out
  case qc2=>
   exact Z1V
  case qc3=>exact H1.out
  case qc4=>unfold maxLen;omega
  case qc5=>omega
  case qc6=>simp
  intro D a2 jy a0 a5;go_wp2;go_ret;refine⟨D,rfl,uK,?_⟩;exact((Zai _ w).alloc (Zab _) _).grown a0 yF vU
theorem Al2:(prog.info? 53).map (fun i=>(i.zero,i.size,i.bytes))=some (some (.agg #[ByteArray.empty,zA,ByteArray.empty,zD]),4,48):=yG
theorem Sr (A:List (List Value)) (a:zO) (c:Nat) (w:zN) (n:Nat) (a4:n<=w) (hlen:A.length<=1000000) (F:Bs w n 4 a A) (O:a=none->A=[]) (h1:∀u∈A.flatten,u.oneCell'=true):
  Calls prog 25 #[.slice a A c] w fun e w'=>∃D,e=.returned D/\w'.ownsRow w 53 4 D A A.flatten/\Below w w w':=by
 obtain⟨a1,G,W,V,Y⟩:=info_parts Al2
 have hu:prog.underlying 27=some (.slice 53):=yG
 have a3:∀(w:zN) (a:zO) (n c M H:Nat),(binOp .eql 27 (.slice a n c) (.slice none M H)).run prog w=.ok (.bool a.isNone) w:=fun w a n c M H=>Zdf w _ _ a n c M H hu
 cases a with
 | none=>
  obtain rfl:=O rfl;go_enter func25,ntmps25
  go_wp2;go_ret;exact⟨_,rfl,Zhi w _ _ _,Zai _ _⟩
 | some T=>
  have J:Hid (A.flatten.length=A*4):=Zaa (by
   rcases F with rfl | ⟨b,o,e,U,h⟩
   ·rfl
   exact Kf (fun i G=>(h i G).2))
  have bX:Hid (∀j u,A.flatten[j]? =some u->w.cell? (T.add j)=some u):=Zaa (by
   rcases F with rfl | ⟨b,o,e,U,h⟩
   ·intro j u av;simp at av
   cases e;intro j u av;rw[Zbu];exact Jk (n:=n) h j u av)
  have H1:=Zaa h1;clear h1 O F;go_enter func25,ntmps25
  go_wp2_with (at_builtin;refine Zij _ rfl _ _ 27 rfl w.heap.size 53 a1 (.agg #[ByteArray.empty,zA,ByteArray.empty,zD]) 4 48 hu G W V Y rfl yH _ _ _ rfl (Zhh w #[] 0 (Zab _) (Zap _) rfl) T A c A.flatten rfl ?qc1 ?qc2 ?qc3 ?qc4 ?qc5 ?qc6 ?_)
  case qc1=>exact J.out
  case qc2=>
   exact Z1V
  case qc3=>exact H1.out
  case qc4=>unfold maxLen;omega
  case qc5=>omega
  case qc6=>simp
  intro D a2 jy a0 a5;go_wp2;go_ret;refine⟨D,rfl,uK,?_⟩;exact((Zai _ w).alloc (Zab _) _).grown a0 yF vU
theorem Yv:(prog.info? 5).map (fun i=>(i.zero,i.size,i.bytes))=some (some (.int .u8 0),1,1):=yG
theorem Wk (A:List (List Value)) (a:zO) (c:Nat) (w:zN) (n:Nat) (a4:n<=w) (hlen:A.length<=1000000) (F:Bs w n 1 a A) (O:a=none->A=[]) (h1:∀u∈A.flatten,u.oneCell'=true):
  Calls prog 66 #[.slice a A c] w fun e w'=>∃D,e=.returned D/\w'.ownsRow w 5 1 D A A.flatten/\Below w w w':=by
 obtain⟨a1,G,W,V,Y⟩:=info_parts Yv
 have hu:prog.underlying 22=some (.slice 5):=yG
 have a3:∀(w:zN) (a:zO) (n c M H:Nat),(binOp .eql 22 (.slice a n c) (.slice none M H)).run prog w=.ok (.bool a.isNone) w:=fun w a n c M H=>Zdf w _ _ a n c M H hu
 cases a with
 | none=>
  obtain rfl:=O rfl;go_enter func66,ntmps66
  go_wp2;go_ret;exact⟨_,rfl,Zhi w _ _ _,Zai _ _⟩
 | some T=>
  have J:Hid (A.flatten.length=A*1):=Zaa (by
   rcases F with rfl | ⟨b,o,e,U,h⟩
   ·rfl
   exact Kf (fun i G=>(h i G).2))
  have bX:Hid (∀j u,A.flatten[j]? =some u->w.cell? (T.add j)=some u):=Zaa (by
   rcases F with rfl | ⟨b,o,e,U,h⟩
   ·intro j u av;simp at av
   cases e;intro j u av;rw[Zbu];exact Jk (n:=n) h j u av)
  have H1:=Zaa h1;clear h1 O F;go_enter func66,ntmps66
  go_wp2_with (at_builtin;refine Zij _ rfl _ _ 22 rfl w.heap.size 5 a1 (.int .u8 0) 1 1 hu G W V Y rfl yH _ _ _ rfl (Zhh w #[] 0 (Zab _) (Zap _) rfl) T A c A.flatten rfl ?qc1 ?qc2 ?qc3 ?qc4 ?qc5 ?qc6 ?_)
  case qc1=>exact J.out
  case qc2=>
   exact Z1V
  case qc3=>exact H1.out
  case qc4=>unfold maxLen;omega
  case qc5=>omega
  case qc6=>simp
  intro D a2 jy a0 a5;go_wp2;go_ret;refine⟨D,rfl,uK,?_⟩;exact((Zai _ w).alloc (Zab _) _).grown a0 yF vU
theorem Ad1:(prog.info? 9).map (fun i=>(i.zero,i.size,i.bytes))=some (some (.string ByteArray.empty),1,16):=yG
theorem Ab2 (A:List (List Value)) (a:zO) (c:Nat) (w:zN) (n:Nat) (a4:n<=w) (hlen:A.length<=1000000) (F:Bs w n 1 a A) (O:a=none->A=[]) (h1:∀u∈A.flatten,u.oneCell'=true):
  Calls prog 224 #[.slice a A c] w fun e w'=>∃D,e=.returned D/\w'.ownsRow w 9 1 D A A.flatten/\Below w w w':=by
 obtain⟨a1,G,W,V,Y⟩:=info_parts Ad1
 have hu:prog.underlying 85=some (.slice 9):=yG
 have a3:∀(w:zN) (a:zO) (n c M H:Nat),(binOp .eql 85 (.slice a n c) (.slice none M H)).run prog w=.ok (.bool a.isNone) w:=fun w a n c M H=>Zdf w _ _ a n c M H hu
 cases a with
 | none=>
  obtain rfl:=O rfl;go_enter func224,ntmps224
  go_wp2;go_ret;exact⟨_,rfl,Zhi w _ _ _,Zai _ _⟩
 | some T=>
  have J:Hid (A.flatten.length=A*1):=Zaa (by
   rcases F with rfl | ⟨b,o,e,U,h⟩
   ·rfl
   exact Kf (fun i G=>(h i G).2))
  have bX:Hid (∀j u,A.flatten[j]? =some u->w.cell? (T.add j)=some u):=Zaa (by
   rcases F with rfl | ⟨b,o,e,U,h⟩
   ·intro j u av;simp at av
   cases e;intro j u av;rw[Zbu];exact Jk (n:=n) h j u av)
  have H1:=Zaa h1;clear h1 O F;go_enter func224,ntmps224
  go_wp2_with (at_builtin;refine Zij _ rfl _ _ 85 rfl w.heap.size 9 a1 (.string ByteArray.empty) 1 16 hu G W V Y rfl yH _ _ _ rfl (Zhh w #[] 0 (Zab _) (Zap _) rfl) T A c A.flatten rfl ?qc1 ?qc2 ?qc3 ?qc4 ?qc5 ?qc6 ?_)
  case qc1=>exact J.out
  case qc2=>
   exact Z1V
  case qc3=>exact H1.out
  case qc4=>unfold maxLen;omega
  case qc5=>omega
  case qc6=>simp
  intro D a2 jy a0 a5;go_wp2;go_ret;refine⟨D,rfl,uK,?_⟩;exact((Zai _ w).alloc (Zab _) _).grown a0 yF vU
end
section
open Tryz Go.RowKit Go.Shelf
abbrev Ey (w:zN) (lo:Nat) (t:Rx) (cs:zP):Prop:=Tree.A6 Cc.cells 8 w (fun b=>lo<=b/\b<w) t cs
theorem Ey.in {w:zN} {lo:Nat} {t:Rx} {cs:zP} (h:Ey w lo t cs):Bo w w t cs:=Tree.A6.mono h fun b U=>U.2
theorem Ey.lower {w:zN} {lo A:Nat} {t:Rx} {cs:zP} (h:Ey w lo t cs) (D:A<=lo):Ey w A t cs:=Tree.A6.mono h fun b U=>⟨yE,U.2⟩
theorem Ey.grown {w w':zN} {lo g:Nat} {t:Rx} {cs:zP} (h:Ey w lo t cs) (D:g<lo) (A:w.grownBy w' (some g)):Ey w' lo t cs:=
 Tree.A6.mono (Tree.A6.block h fun b U=>A.block b U.2 yJ) fun b U=>⟨U.1,Zal U.2 A.size⟩
theorem Aq {fn:Func} {p:Tmp} {ty:TypeId} (h:fn.results=#[.cell p ty]) (tmps:Array Value) (w:zN) (b o:Nat) (cs:zP) (hp:tmps.getD p undef=.pointer (some ⟨b,o,none⟩)) (G:w.rangeAt b o cs)
  (A:(prog.underlying ty).map (·.isRow)=some true) (F:(prog.info? ty).map (·.size)=some cs.length):
  (results fn tmps).run prog w=.ok (.agg cs.toArray) w:=by
 obtain⟨d,hu,H⟩:∃d,prog.underlying ty=some d/\d.isRow=true:=by
  cases D:prog.underlying ty with
  | none=>rw[D]at A;cases A
  | some d=>rw[D]at A;exact⟨d,rfl,by simpa using A⟩
 rw[Zbv]at hp
 simp only[results,h]
 simp[Zgv,Result.andThen,hp,asAddr,Zif w b o ty cs d G hu H F]
theorem Nf (w:zN) (b:Nat):∀(vs:zP) (o:Nat),(w.setCells b o vs).heap.size=w.heap.size
 | [],_=>rfl
 | v::r,o=>by
  rw[World.setCells,Nf _ b r (o+1)];simp[World.setCell]
theorem Gt (w:zN) (b:Nat) {ty:TypeId}:∀(vs:zP) (o:Nat) (cur:Array Value),w.heap[b]? =some (.cells cur ty (0,0))->∃A,(w.setCells b o vs).heap[b]? =some (.cells A ty (0,0))
 | [],_,cur,h=>⟨cur,h⟩
 | v::r,o,cur,h=>by
  rw[World.setCells];refine Gt (w.setCell ⟨b,o,none⟩ v) b r (o+1) (cur.setIfInBounds o v) ?_;simp only[World.setCell,Zby,Zia,h,Zaj,Zgn];simp
structure Afg (n g base i:Nat) (s:List Rx) (ai:List (List Value)) (X:zN):Prop where
 row:∃cur,X.heap[g]? =some (.cells cur 43 (0,0))
 done:∀j (h:j<s.length),j<i->∃dk,X.rangeAt g (j*8) dk/\dk.length=8/\Ey X base s[j] dk
 todo:∀j (h:j<ai.length),i<=j->X.rangeAt g (j*8) ai[j]/\ai[j].length=8
 src:∀j (h:j<s.length) (ig:j<ai.length),Bo X n s[j] ai[j]
 size:base<=X.heap.size
theorem Aap (t:Rx):∀(cs:zP) (w:zN) (n:Nat),t.size<=10000->n<=w->Bo w n t cs->
  Calls prog 85 #[.agg cs.toArray] w fun e w'=>∃aJ,e=.returned (.agg aJ.toArray)/\Ey w' w t aJ/\Below w w w':=by
 induction t using Tree.ind with
 | h lb s b0=>
 intro cs w n bp aG an
 have hlen:s.length<=10000:=wS
 obtain⟨a,c,V,rfl,bf,a9,H,ah⟩:=Tree.In.rows (E:=Cc.cells) (K:=8) (fun _=>rfl) an
 have af:a=none->V=[]:=by
  rintro rfl;rcases H with h | ⟨b,o,h,_⟩
  ·exact h
  cases h
 have aF:∀u∈V.flatten,u.oneCell'=true:=by
  intro u hu;obtain⟨x,aR,ax⟩:=Zfa.1 hu;obtain⟨i,ae,rfl⟩:=Zem aR;obtain⟨G,A,e⟩:=Bo.shape (ah i yE ae);rw[e]at ax;simp only[Zbc,Zbe,Zic]at ax;rcases ax with rfl | rfl | rfl | rfl | rfl | rfl | rfl | rfl<;>rfl
 obtain⟨k,s0,s1,s2,s3,mn,mx⟩:=lb
 simp only[Cc.cells,Zas,Zau]at an|-
 obtain⟨aj,ba⟩:=zL ((w.alloc (.cells #[k,s0,s1,s2,s3,mn,mx,.slice a s c] 43)).alloc (.cells zV 43))
 have ak:Below w w aj:=by rw[<-ba];exact(Af _).alloc yF _
 have au:aj.heap.size=w+2:=xO
 have aw:=Ab3 V a c aj n yE yE (H.below ak aG) af aF
 rw[a9]at aw
 subst ba
 go_enter func85,ntmps85
 go_wp2_with fail
 refine aw.mono ?_
 rintro e F ⟨bk,rfl,aB,a2⟩
 rw[au]at aB a2
 have a5:F.heap[w.heap.size]? =some (.cells #[k,s0,s1,s2,s3,mn,mx,.slice a s c] 43 (0,0)):=(a2.block _ yE).trans ((Zcd _ _ _ yF).trans (Zhe w _))
 have ad:F.heap[w.heap.size+1]? =some (.cells zV 43 (0,0)):=(a2.block _ yE).trans (by have:=Zhe (w.alloc (.cells #[k,s0,s1,s2,s3,mn,mx,.slice a s c] 43)) (.cells zV 43);rwa[Zaq]at this)
 have aq:Below w w F:=ak.trans (a2.mono yE)
 have bm:w.heap.size+2<=F:=by have:=a2.size;rw[au]at this;exact this
 have bl1:∀i (h:i<V.length),V[i].length=8:=fun i h=>Tree.In.len (E:=Cc.cells) (fun _=>rfl) (ah i yE h)
 obtain⟨G,A,rfl,bn,b8⟩:=R1 bl1 a9.symm aB
 have bme:∀j (h:j<s.length) (ig:j<V.length),Bo F n s[j] V[j]:=fun j h ig=>(ah j h ig).below (aq.mono aG)
 rw[a9]
 clear aw aF af H aB an ah ak au
 have aA:F.cell? ⟨w,7,none⟩=some (.slice a s c):=by simp[World.cell?,a5]
 have f7:F.frozen? ⟨w,7,none⟩=false:=by simp[World.frozen?,a5]
 rcases b8 with af | ⟨g,cur,rfl,bg,jx,aP,kj⟩
 ·obtain rfl:s=[]:=Zds (by rw[<-a9,af];rfl)
  have O:F.grownBy (F.setCell ⟨w,7,none⟩ (.slice G 0 A)) (some w.heap.size):=As _ _ _ _;have al:(F.setCell ⟨w,7,none⟩ (.slice G 0 A)).heap[w.heap.size]? =some (.cells #[k,s0,s1,s2,s3,mn,mx,.slice G 0 A] 43 (0,0)):=by
   simp only[World.setCell,Zby,Zia,a5,Zaj,Zgn];simp
  have ag:=(O.block (w+1) yE yF).trans ad;have aa:=O.size;have a6:Below w w (F.setCell ⟨w,7,none⟩ (.slice G 0 A)):=aq.grown O yE (fun r e=>wI);clear a5 ad a2;simp only[Zav];go_wp2_with fail
  generalize F.setCell ⟨w,7,none⟩ (.slice G 0 A)=D at O al ag aa a6|-;have b2:D.cell? ⟨w,0,none⟩=some (.int .u8 k.toNat):=xL;have b4:D.cell? ⟨w,1,none⟩=some (.int .u64 s0.toNat):=xL;have b1:D.cell? ⟨w,2,none⟩=some (.int .u64 s1.toNat):=xL;have T:D.cell? ⟨w,3,none⟩=some (.int .u64 s2.toNat):=xL;have b7:D.cell? ⟨w,4,none⟩=some (.int .u64 s3.toNat):=xL;have b5:D.cell? ⟨w,5,none⟩=some (.int .i64 mn):=xL;have M:D.cell? ⟨w,6,none⟩=some (.int .i64 mx):=xL;have aA:D.cell? ⟨w,7,none⟩=some (.slice G 0 A):=xL;have a1:D.there (w+1) 0 8:=by
   intro j av;refine⟨?_,by simp[World.frozen?,ag]⟩;simp only[World.cell?,ag]
   match j,av with
   | 0,_ | 1,_ | 2,_ | 3,_ | 4,_ | 5,_ | 6,_ | 7,_=>rfl
  have Y:=Zaa a1;clear al ag a1
  go_loop [12] (fun v=>v=.int .i64 0) (fun _=>0)
  case atStart=>rfl
  case round=>
   obtain rfl:=hrel;go_wp2_with (refine Zil rfl 43 _ _ rfl (w.heap.size+1) 0 #[k,s0,s1,s2,s3,mn,mx,.slice G 0 A] rfl rfl Y.out yG yL ?_)
   have cm:=Ao D (w+1) [k,s0,s1,s2,s3,mn,mx,.slice G 0 A] 0;have a8:(D.setCells (w+1) 0 [k,s0,s1,s2,s3,mn,mx,.slice G 0 A]).rangeAt (w+1) 0 [k,s0,s1,s2,s3,mn,mx,.slice G 0 A]:=Zar D (w+1) 0 [k,s0,s1,s2,s3,mn,mx,.slice G 0 A] Y.out;generalize D.setCells (w+1) 0 [.int .u8 k.toNat,.int .u64 s0.toNat,.int .u64 s1.toNat,.int .u64 s2.toNat,.int .u64 s3.toNat,.int .i64 mn,.int .i64 mx,.slice G 0 A]=b9 at cm a8|-;refine Zho (v:=.agg #[k,s0,s1,s2,s3,mn,mx,.slice G 0 A]) (Aq rfl _ _ (w+1) 0 [k,s0,s1,s2,s3,mn,mx,.slice G 0 A] rfl a8 yG yG) rfl ⟨[k,s0,s1,s2,s3,mn,mx,.slice G 0 A],rfl,?_,?_⟩
   ·exact Tree.A6.shut (E:=Cc.cells) (l:=⟨k,s0,s1,s2,s3,mn,mx⟩) (Zap _) (.inl rfl)
   exact a6.grown cm yE (fun r e=>yM)
 have bcp:=Zaa a5
 have bd:=Zaa ad
 have ff:=Zaa aP
 clear a5 ad aP a2
 have y8:g≠w:=yE
 go_wp2_with fail
 obtain⟨D,O⟩:=zL (F.setCell ⟨w,7,none⟩ (.slice (some ⟨g,0,none⟩) s A))
 rw[O]
 have i2:F.grownBy D (some w.heap.size):=by rw[<-O];exact As _ _ _ _
 have a6:Below w w D:=aq.grown i2 yE (fun r e=>wI)
 have aa:D.heap.size=F:=by rw[<-O];simp[World.setCell]
 have al:D.heap[w.heap.size]? =some (.cells #[k,s0,s1,s2,s3,mn,mx,.slice (some ⟨g,0,none⟩) s A] 43 (0,0)):=by
  rw[<-O];exact Z23
 have aT:Afg n g F 0 s V D:=by
  exact Z1i
 have aK:D.heap[w.heap.size+1]? =some (.cells zV 43 (0,0)):=(i2.block _ yE yF).trans bd.out
 have aW:=Zaa al
 have bb:=Zaa aK
 have zh:=Zaa aa
 clear O kj bme al aK aa aA f7
 go_loopw [12] (fun v wr=>∃i:Nat,i<=s.length/\v=.int .i64 i/\D.grownBy wr (some g)/\Afg n g F i s V wr) (fun v _=>s.length - (intOf v).toNat)
 case atStart=>exact⟨0,Zap _,rfl,⟨rfl,rfl,rfl,Zab _,fun _ _ _=>rfl⟩,aT⟩
 case round=>
  obtain⟨i,ae,rfl,a4,I⟩:=hrel;have bt:wr.heap[w.heap.size]? =some (.cells #[k,s0,s1,s2,s3,mn,mx,.slice (some ⟨g,0,none⟩) s A] 43 (0,0)):=(a4.block _ tI uT).trans aW.out;by_cases ao:i<s.length
  ·have bl:(i:Int) <s.length:=by omega
   have H:=(I.todo i yE (Zab _)).1;have aC:=I.src i ao yE;obtain⟨a3,T,b6⟩:=Bo.shape aC;rw[b6]at H aC;have d0:=H 0 _ rfl;have d1:=H 1 _ rfl;have d2:=H 2 _ rfl;have d3:=H 3 _ rfl;have d4:=H 4 _ rfl;have d5:=H 5 _ rfl;have d6:=H 6 _ rfl;have d7:=H 7 _ rfl;simp only[Zaf]at d0;have bc:=zh.out;have aZ:=a4.size;go_wp2_with fail
   obtain⟨ay,ic⟩:=zL (wr.alloc (.cells #[.int .u8 s[i].Ak.kind.toNat,.int .u64 s[i].Ak.s0.toNat,.int .u64 s[i].Ak.s1.toNat,.int .u64 s[i].Ak.s2.toNat,.int .u64 s[i].Ak.s3.toNat,.int .i64 s[i].Ak.mn,.int .i64 s[i].Ak.mx,.slice a3 s[i].Cb.length T] 43));rw[ic];have ac:wr.grownBy ay none:=by rw[<-ic];exact Zhf _ _ _
   have np:ay.heap.size=wr+1:=xS;have aO:ay.rangeAt wr 0 [.int .u8 s[i].Ak.kind.toNat,.int .u64 s[i].Ak.s0.toNat,.int .u64 s[i].Ak.s1.toNat,.int .u64 s[i].Ak.s2.toNat,.int .u64 s[i].Ak.s3.toNat,.int .i64 s[i].Ak.mn,.int .i64 s[i].Ak.mx,.slice a3 s[i].Cb.length T]:=by rw[<-ic];exact Ae wr [.int .u8 s[i].Ak.kind.toNat,.int .u64 s[i].Ak.s0.toNat,.int .u64 s[i].Ak.s1.toNat,.int .u64 s[i].Ak.s2.toNat,.int .u64 s[i].Ak.s3.toNat,.int .i64 s[i].Ak.mn,.int .i64 s[i].Ak.mx,.slice a3 s[i].Cb.length T] _
   have aL:ay.heap[w.heap.size]? =some (.cells #[k,s0,s1,s2,s3,mn,mx,.slice (some ⟨g,0,none⟩) s A] 43 (0,0)):=(ac.block _ yE yF).trans bt;clear ic d0 d1 d2 d3 d4 d5 d6 d7;have aY:=Zaa aL;have aX:=Zaa aO;clear bt aL aO;have ap:∀W:World,W.heap=ay.heap->(W.rangeAt w 7 [.slice (some ⟨g,0,none⟩) s A]/\W.rangeAt wr 0 [.int .u8 s[i].Ak.kind.toNat,.int .u64 s[i].Ak.s0.toNat,.int .u64 s[i].Ak.s1.toNat,.int .u64 s[i].Ak.s2.toNat,.int .u64 s[i].Ak.s3.toNat,.int .i64 s[i].Ak.mn,.int .i64 s[i].Ak.mx,.slice a3 s[i].Cb.length T]):=fun W aI=>
    ⟨Ag (w:=ay) (by
     intro j v am;cases j with
     | zero=>simp only[Zad,Zbb]at am;subst am;simp[World.cell?,aY.out]
     | succ j=>simp at am) (by rw[aI]),Ag aX.out (by rw[aI])⟩
   refine C1 [(0,.inl none),(1,.inl (some 0)),(2,.inl none),(3,.inl (some 0)),(4,.inr [0]),(5,.inl none),(6,.inr [0])]
    (fun _ W=>W.rangeAt w 7 [.slice (some ⟨g,0,none⟩) s A]/\W.rangeAt wr 0 [.int .u8 s[i].Ak.kind.toNat,.int .u64 s[i].Ak.s0.toNat,.int .u64 s[i].Ak.s1.toNat,.int .u64 s[i].Ak.s2.toNat,.int .u64 s[i].Ak.s3.toNat,.int .i64 s[i].Ak.mn,.int .i64 s[i].Ak.mx,.slice a3 s[i].Cb.length T]) yG yG (fun _=>ap _ (Zhg _ _)) ?_
   refine Z3s ?_;have ee:(ay.drewN 1).heap=ay.heap:=Zhg _ _;have ar:=ap (ay.drewN 1) ee;have aE:Bo (ay.drewN 1) n s[i] [.int .u8 s[i].Ak.kind.toNat,.int .u64 s[i].Ak.s0.toNat,.int .u64 s[i].Ak.s1.toNat,.int .u64 s[i].Ak.s2.toNat,.int .u64 s[i].Ak.s3.toNat,.int .i64 s[i].Ak.mn,.int .i64 s[i].Ak.mx,.slice a3 s[i].Cb.length T]:=Tree.A6.block aC (fun b U=>by rw[ee];exact ac.block b yE yF);have aM:=b0 s[i] (Zat ao) [.int .u8 s[i].Ak.kind.toNat,.int .u64 s[i].Ak.s0.toNat,.int .u64 s[i].Ak.s1.toNat,.int .u64 s[i].Ak.s2.toNat,.int .u64 s[i].Ak.s3.toNat,.int .i64 s[i].Ak.mn,.int .i64 s[i].Ak.mx,.slice a3 s[i].Cb.length T] (ay.drewN 1) n vS vQ aE;have beg:wr.grownBy (ay.drewN 1) none:=Bn ac (B5 _ _ _);refine Z56 ?_;intro j4;clear ap;generalize ay.drewN 1=aV at ar aE aM beg j4|-;have ta:=Zaa ar;clear ee aE ac np ar H;refine Z02 ?_;refine Av (.slice (some ⟨g,0,none⟩) s A) yI (fun w' ab=>?_) (fun K J=>?_)
   ·have jd:=ab.1 0 _ rfl
    simp only[Zaf]at jd;go_simp
   refine Z2n ?_;clear J K;refine Z02 ?_;refine Av (.agg #[.int .u8 s[i].Ak.kind.toNat,.int .u64 s[i].Ak.s0.toNat,.int .u64 s[i].Ak.s1.toNat,.int .u64 s[i].Ak.s2.toNat,.int .u64 s[i].Ak.s3.toNat,.int .i64 s[i].Ak.mn,.int .i64 s[i].Ak.mx,.slice a3 s[i].Cb.length T]) yI (fun w' ab=>?_) (fun K J=>?_)
   ·have aS:=ab.2 0 _ rfl
    refine Z0X ?_;intro bh cq ed ez ja jh jd;simp only[Zac]at aS bh cq ed ez ja jh jd;go_simp
   refine Z2n ?_;clear J K;refine Ci (fun K J=>?_) (Bg ta.out);go_wp2_with fail
   refine aM.mono ?_;rintro e b3 ⟨dk,rfl,aN,bj⟩;obtain⟨a0,M,rfl⟩:=Bo.shape (Ey.in aN);have rq:b3.heap[g]? =wr.heap[g]? :=(bj.block g yE).trans (beg.block g yE yF);have a1:b3.there g (i*8) 8:=by
    exact Z1A
   have Y:=Zaa a1;clear a1;go_wp2_with fail
   refine J _ _ (Bg ⟨Aa ta.out.1 bj yE,Aa ta.out.2 bj yE⟩) ?_;clear J K;refine Z02 ?_;refine Ci (fun K J=>?_) (Bg ⟨Aa ta.out.1 bj yE,Aa ta.out.2 bj yE⟩);refine Zil rfl 43 _ _ rfl g (i*8) #[.int .u8 s[i].Ak.kind.toNat,.int .u64 s[i].Ak.s0.toNat,.int .u64 s[i].Ak.s1.toNat,.int .u64 s[i].Ak.s2.toNat,.int .u64 s[i].Ak.s3.toNat,.int .i64 s[i].Ak.mn,.int .i64 s[i].Ak.mx,.slice a0 s[i].Cb.length M] rfl rfl Y.out yG yL ?_;have bu:=Ao b3 g [.int .u8 s[i].Ak.kind.toNat,.int .u64 s[i].Ak.s0.toNat,.int .u64 s[i].Ak.s1.toNat,.int .u64 s[i].Ak.s2.toNat,.int .u64 s[i].Ak.s3.toNat,.int .i64 s[i].Ak.mn,.int .i64 s[i].Ak.mx,.slice a0 s[i].Cb.length M] (i*8);have be:=Nf b3 g [.int .u8 s[i].Ak.kind.toNat,.int .u64 s[i].Ak.s0.toNat,.int .u64 s[i].Ak.s1.toNat,.int .u64 s[i].Ak.s2.toNat,.int .u64 s[i].Ak.s3.toNat,.int .i64 s[i].Ak.mn,.int .i64 s[i].Ak.mx,.slice a0 s[i].Cb.length M] (i*8);have aQ:(b3.setCells g (i*8) [.int .u8 s[i].Ak.kind.toNat,.int .u64 s[i].Ak.s0.toNat,.int .u64 s[i].Ak.s1.toNat,.int .u64 s[i].Ak.s2.toNat,.int .u64 s[i].Ak.s3.toNat,.int .i64 s[i].Ak.mn,.int .i64 s[i].Ak.mx,.slice a0 s[i].Cb.length M]).rangeAt g (i*8) [.int .u8 s[i].Ak.kind.toNat,.int .u64 s[i].Ak.s0.toNat,.int .u64 s[i].Ak.s1.toNat,.int .u64 s[i].Ak.s2.toNat,.int .u64 s[i].Ak.s3.toNat,.int .i64 s[i].Ak.mn,.int .i64 s[i].Ak.mx,.slice a0 s[i].Cb.length M]:=Zar b3 g (i*8) [.int .u8 s[i].Ak.kind.toNat,.int .u64 s[i].Ak.s0.toNat,.int .u64 s[i].Ak.s1.toNat,.int .u64 s[i].Ak.s2.toNat,.int .u64 s[i].Ak.s3.toNat,.int .i64 s[i].Ak.mn,.int .i64 s[i].Ak.mx,.slice a0 s[i].Cb.length M] Y.out;have az:=fun(b' aD:Nat) (cs:zP) (h:b3.rangeAt b' aD cs) (aU:b'≠g\/aD+cs.length<=i*8\/i*8+8<=aD)=>Zhl h g (i*8) [.int .u8 s[i].Ak.kind.toNat,.int .u64 s[i].Ak.s0.toNat,.int .u64 s[i].Ak.s1.toNat,.int .u64 s[i].Ak.s2.toNat,.int .u64 s[i].Ak.s3.toNat,.int .i64 s[i].Ak.mn,.int .i64 s[i].Ak.mx,.slice a0 s[i].Cb.length M] aU
   have aH:∃cur,(b3.setCells g (i*8) [.int .u8 s[i].Ak.kind.toNat,.int .u64 s[i].Ak.s0.toNat,.int .u64 s[i].Ak.s1.toNat,.int .u64 s[i].Ak.s2.toNat,.int .u64 s[i].Ak.s3.toNat,.int .i64 s[i].Ak.mn,.int .i64 s[i].Ak.mx,.slice a0 s[i].Cb.length M]).heap[g]? =some (.cells cur 43 (0,0)):=by
    obtain⟨bu7,kM⟩:=I.row;rw[<-rq]at kM;exact Gt b3 g _ _ _ kM
   refine Z4a ?_;generalize b3.setCells g (i*8) [.int .u8 s[i].Ak.kind.toNat,.int .u64 s[i].Ak.s0.toNat,.int .u64 s[i].Ak.s1.toNat,.int .u64 s[i].Ak.s2.toNat,.int .u64 s[i].Ak.s3.toNat,.int .i64 s[i].Ak.mn,.int .i64 s[i].Ak.mx,.slice a0 s[i].Cb.length M]=bs at bu be aQ az aH|-;clear Y;refine Z4F ?_;clear J K;refine C7 ?_;go_wp2_with fail
   go_roundw
   case rel=>
    have bx8:aV.grownBy b3 none:=Ck none bj (Zab _);refine Z21 ?_;intro oc l9;refine⟨i+1,yE,yK,Bn a4 oc,aH,fun j h av=>?_,fun j h av=>?_,fun j h ig=>?_,tJ⟩
    ·by_cases e:j=i
     ·subst e
      refine⟨_,aQ,rfl,?_⟩;exact Ey.grown (Ey.lower aN tJ) jx bu
     obtain⟨dk,q1,eh,hn⟩:=I.done j h yE;refine⟨dk,?_,eh,?_⟩
     ·exact az _ _ _ (Ag q1 rq) (.inr (.inl yE))
     exact Ey.grown hn jx oc
    ·have vm:=I.todo j h yE
     exact⟨az _ _ _ (Ag vm.1 rq) (.inr (.inr yE)),vm.2⟩
    exact Tree.A6.block (I.src j h ig) (fun b U=>oc.block b yE yJ)
   case measure=>simp[intOf];omega
  obtain rfl:i=s.length:=by omega
  refine Z1e ?_;intro fe;have ai:wr.heap[w.heap.size+1]? =some (.cells zV 43 (0,0)):=(a4.block _ tI yJ).trans bb.out;have b2:wr.cell? ⟨w,0,none⟩=some (.int .u8 k.toNat):=xM;have b4:wr.cell? ⟨w,1,none⟩=some (.int .u64 s0.toNat):=xM;have b1:wr.cell? ⟨w,2,none⟩=some (.int .u64 s1.toNat):=xM;have T:wr.cell? ⟨w,3,none⟩=some (.int .u64 s2.toNat):=xM;have b7:wr.cell? ⟨w,4,none⟩=some (.int .u64 s3.toNat):=xM;have b5:wr.cell? ⟨w,5,none⟩=some (.int .i64 mn):=xM;have M:wr.cell? ⟨w,6,none⟩=some (.int .i64 mx):=xM;have aA:wr.cell? ⟨w,7,none⟩=some (.slice (some ⟨g,0,none⟩) s A):=xM;have a1:wr.there (w+1) 0 8:=by
   intro j av;refine⟨?_,by simp[World.frozen?,ai]⟩;simp only[World.cell?,ai]
   match j,av with
   | 0,_ | 1,_ | 2,_ | 3,_ | 4,_ | 5,_ | 6,_ | 7,_=>rfl
  have Y:=Zaa a1;clear bt ai a1;go_wp2_with (refine Zil rfl 43 _ _ rfl (w.heap.size+1) 0 #[k,s0,s1,s2,s3,mn,mx,.slice (some ⟨g,0,none⟩) s A] rfl rfl Y.out yG yL ?_)
  have cm:=Ao wr (w+1) [k,s0,s1,s2,s3,mn,mx,.slice (some ⟨g,0,none⟩) s A] 0;have a8:(wr.setCells (w+1) 0 [k,s0,s1,s2,s3,mn,mx,.slice (some ⟨g,0,none⟩) s A]).rangeAt (w+1) 0 [k,s0,s1,s2,s3,mn,mx,.slice (some ⟨g,0,none⟩) s A]:=Zar wr (w+1) 0 [k,s0,s1,s2,s3,mn,mx,.slice (some ⟨g,0,none⟩) s A] Y.out;generalize wr.setCells (w+1) 0 [.int .u8 k.toNat,.int .u64 s0.toNat,.int .u64 s1.toNat,.int .u64 s2.toNat,.int .u64 s3.toNat,.int .i64 mn,.int .i64 mx,.slice (some ⟨g,0,none⟩) s A]=b9 at cm a8|-;have aZ:=a4.size;have bc:=zh.out;have bi:=cm.size;refine Zho (v:=.agg #[k,s0,s1,s2,s3,mn,mx,.slice (some ⟨g,0,none⟩) s A]) (Aq rfl _ _ (w+1) 0 [k,s0,s1,s2,s3,mn,mx,.slice (some ⟨g,0,none⟩) s A] rfl a8 yG yG) rfl ⟨[k,s0,s1,s2,s3,mn,mx,.slice (some ⟨g,0,none⟩) s A],rfl,?_,?_⟩
  ·refine Tree.A6.shut (E:=Cc.cells) (l:=⟨k,s0,s1,s2,s3,mn,mx⟩) yE (.inr ⟨g,0,rfl,⟨yE,yE⟩,fun i ae=>?_⟩)
   exact Z1r
  exact(a6.grown a4 a6.size (fun r e=>yM)).grown cm yE (fun r e=>yM)
end
section
open Tryz Go.RowKit Go.Shelf
theorem Ah6 (t:Rx) (cs:zP) (w:zN) (n:Nat) (W:t.size<=10000) (a8:n<=w) (V:Bo w n t cs):
  Calls prog 54 #[.agg cs.toArray] w fun e w'=>∃M,e=.returned (.agg M.toArray)/\Ey w' w t M/\Below w w w':=by
 obtain⟨a,c,rfl⟩:=Bo.shape V
 obtain⟨dq,gd⟩:=zL ((w.alloc (.cells #[t.Ak.kind,t.Ak.s0,t.Ak.s1,t.Ak.s2,t.Ak.s3,t.Ak.mn,t.Ak.mx,.slice a t.Cb c] 43)).alloc (.cells zV 43))
 refine Z30 ?_
 intro c0 gh
 have a0:dq.rangeAt w 0 [t.Ak.kind,t.Ak.s0,t.Ak.s1,t.Ak.s2,t.Ak.s3,t.Ak.mn,t.Ak.mx,.slice a t.Cb c]:=by rw[<-gd];exact Aa (Ae w [t.Ak.kind,t.Ak.s0,t.Ak.s1,t.Ak.s2,t.Ak.s3,t.Ak.mn,t.Ak.mx,.slice a t.Cb c] 43) (Af (w:=w.alloc (.cells #[t.Ak.kind,t.Ak.s0,t.Ak.s1,t.Ak.s2,t.Ak.s3,t.Ak.mn,t.Ak.mx,.slice a t.Cb c] 43)) (.cells zV 43)) yF
 have a2:dq.heap[w.heap.size+1]? =some (.cells zV 43 (0,0)):=by rw[<-gd];have:=Zhe (w.alloc (.cells #[t.Ak.kind,t.Ak.s0,t.Ak.s1,t.Ak.s2,t.Ak.s3,t.Ak.mn,t.Ak.mx,.slice a t.Cb c] 43)) (.cells zV 43);rwa[Zaq]at this
 have T:=V.below (c0.mono a8)
 have O:=Iz t _ dq n W yE T
 subst gd
 rw[gh]at O
 have ac:=Zaa a0
 have ab:=Zaa a2
 have af:=Zaa gh
 clear a0 a2 gh
 go_enter func54,ntmps54
 go_wp2_with fail
 refine O.mono ?_
 rintro e H ⟨rfl,D⟩
 have gh:=af.out
 have aa:=D.size
 rw[gh]at aa
 have b7:=Aa ac.out D yE
 have ad:=T.below (D.mono yE)
 have ag:Below w w H:=c0.trans (D.mono yE)
 have a4:H.heap[w.heap.size+1]? =some (.cells zV 43 (0,0)):=(D.block _ yE).trans ab.out
 have a6:=Aap t _ H n W yE ad
 refine Z0n ?_
 intro d0 d1 d2 d3 d4
 refine Z57 ?_
 intro d5 d6 d7
 simp only[Zac]at d0 d1 d2 d3 d4 d5 d6 d7
 have ae:=Zaa a4
 clear D O T c0 b7 gh a4
 go_wp2_with fail
 refine a6.mono ?_
 rintro e A ⟨M,rfl,a5,U⟩
 obtain⟨F,G,rfl⟩:=Bo.shape (Ey.in a5)
 have me:A.heap[w.heap.size+1]? =some (.cells zV 43 (0,0)):=(U.block _ yE).trans ae.out
 have a1:A.there (w+1) 0 8:=by
  intro j a9;refine⟨?_,vY⟩;simp only[World.cell?,me]
  match j,a9 with
  | 0,_ | 1,_ | 2,_ | 3,_ | 4,_ | 5,_ | 6,_ | 7,_=>rfl
 have Y:=Zaa a1
 have a7:Below w w A:=ag.trans (U.mono yE)
 clear me a1 a6
 go_wp2_with (refine Zil rfl 43 _ _ rfl _ _ _ rfl rfl Y.out yG yL ?_)
 have J:=Ao A (w+1) [t.Ak.kind,t.Ak.s0,t.Ak.s1,t.Ak.s2,t.Ak.s3,t.Ak.mn,t.Ak.mx,.slice F t.Cb G] 0
 have a3:(A.setCells (w+1) 0 [t.Ak.kind,t.Ak.s0,t.Ak.s1,t.Ak.s2,t.Ak.s3,t.Ak.mn,t.Ak.mx,.slice F t.Cb G]).rangeAt (w+1) 0 [t.Ak.kind,t.Ak.s0,t.Ak.s1,t.Ak.s2,t.Ak.s3,t.Ak.mn,t.Ak.mx,.slice F t.Cb G]:=Zar A (w+1) 0 [t.Ak.kind,t.Ak.s0,t.Ak.s1,t.Ak.s2,t.Ak.s3,t.Ak.mn,t.Ak.mx,.slice F t.Cb G] Y.out
 generalize A.setCells (w+1) 0 [.int .u8 t.Ak.kind.toNat,.int .u64 t.Ak.s0.toNat,.int .u64 t.Ak.s1.toNat,.int .u64 t.Ak.s2.toNat,.int .u64 t.Ak.s3.toNat,.int .i64 t.Ak.mn,.int .i64 t.Ak.mx,.slice F t.Cb G]=ah at J a3|-
 refine Zho (Aq rfl _ _ _ _ _ rfl a3 yG yG) rfl ⟨_,rfl,?_,?_⟩
 ·exact Ey.lower (Ey.grown a5 yE J) yE
 exact a7.grown J a7.size (fun r e=>yM)
end
section
open Tryz Go.RowKit Go.Shelf
attribute [local go_sem] Oper.semAt_some
def Ar0 (n:Nat) (t:Ex) (k:Nat) (args:Array Value) (X:zN):Prop:=∃(h:k<t.pre) (es:zP),args=#[.agg es.toArray]/\Ch X n t.pre[k] es
theorem Wb (t:Ex) (cs:zP) (w:zN) (n B A:Nat) (O:t.size<=1000000) (F:Ch w n t cs) (G:w.rangeAt A 0 cs) (T:A<n\/B<=A) (J:n<=B) (a2:B<=w):
  Iter prog 143 #[zK A] t.pre (Ar0 n t) (Cg n B (w+2)) w:=by
 intro m l U a0 W D M Y a1 V h0
 have H:A<w:=by
  obtain⟨_,_,_,_,_,_,_,_,_,_,rfl⟩:=Ch.G2 F;exact Bm G yF
 have:=Al8 t cs m l A n B (w+2) U a0 W O (F.below (D.mono yE)) (Aa G D H) T J (by have:=D.size;omega) M Y a1 (fun k X es h1 h2 h3=>V k X _ h1 ⟨h1,es,rfl,h2⟩ h3) h0
 rw[Tree.Dx]
 exact this
theorem Kz (t:Ex) (cs:zP) (w:zN) (n:Nat) (O:t.size<=10000) (ah:n<=w) (D:Ch w n t cs):
  Calls prog 83 #[.agg cs.toArray] w fun e w'=>e=.returned (.bool true)/\Below w w w':=by
 obtain⟨z0,b9,z2,z3,bg,bk,z9,rfl⟩:=Ch.G2 D
 refine Z4f ?_
 refine Zhp func83 rfl trivial ?_ rfl
 simp only[ntmps83,Zfk,Zao,Zav,Nat.reduceAdd,Nat.reduceSub,Zcb,Zcc,Zff,Zdl,Zau,Zas]
 refine Zii.2 ?_
 go_wp2_with fail
 go_step3
 go_wp2_with fail
 go_step3
 go_wp2_with fail
 refine Z35 ?_
 intro ag cr
 go_wp2_with fail
 have U:ag.heap.size=w+3:=xK
 have A:Below w w ag:=sW
 have M:ag.rangeAt (w+2) 0 [z0,.float .f64 b9,z2,z3,.slice bg bk z9]:=by
  rw[<-cr];have:=Ae ((w.alloc (.cells #[z0,.float .f64 b9,z2,z3,.slice bg bk z9] 118)).alloc (.cells #[zE] 3)) [z0,.float .f64 b9,z2,z3,.slice bg bk z9] 118;rwa[Zaq,Zaq]at this
 have G:Boxed ag (w+1) 3 (.int .i64 0):=by
  rw[<-cr];have:=(Zco (w.alloc (.cells #[z0,.float .f64 b9,z2,z3,.slice bg bk z9] 118)) 3 (.int .i64 0)).alloc (.cells #[z0,.float .f64 b9,z2,z3,.slice bg bk z9] 118);exact Z1z
 have H:=D.below (A.mono ah)
 clear cr
 refine(Zii (n:=5)).1 (Gp (gf:=143) (lb:=#[zK (w+2)]) rfl (fun _ _=>rfl)
  (Wb t _ ag n (w+2) (w+2) yE H M (.inr (Zab _)) yE yE) (fun k args X ⟨_,es,e,_⟩=>yS) Cg.trans (fun X kk T F h1 h2 h3 h4=>Cg.put h3 h4 h2 F)
  (fun k X=>Ip w (w+1) k X) (fun _ _=>False) (fun k=>Ip.B8 yE) (fun c=>At.pure _) ⟨G,A⟩
  (fun _ ak _=>∃v,ak={tmps:=#[.agg #[z0,.float .f64 b9,z2,z3,.slice bg bk z9],.pointer (some ⟨w,0,none⟩),.bool false,.pointer (some ⟨w+1,0,none⟩),.agg #[z0,.float .f64 b9,z2,z3,.slice bg bk z9],.func (.func 143) #[] #[zK (w+2)],v,undef,undef,undef,undef,undef,undef],defers:=[]})
  (fun k ak=>At.pure _) ?assign ?body ?done ?stop)
 case assign=>
  exact Z2C
 case body=>
  exact Z0L
 case done=>
  exact Z1x
 case stop=>
  exact Z1Z
theorem Aqe (t:Ex) (cs:zP) (w:zN) (n:Nat) (W:t.size<=10000) (ah:n<=w) (G:Ch w n t cs):
  Calls prog 84 #[.agg cs.toArray] w fun e w'=>e=.returned (.int .i64 t.size)/\Below w w w':=by
 obtain⟨z0,b9,z2,z3,bg,bk,z9,rfl⟩:=Ch.G2 G
 obtain⟨F,gd⟩:=zL ((w.alloc (.cells #[z0,.float .f64 b9,z2,z3,.slice bg bk z9] 118)).alloc (.cells #[zE] 3))
 have H:Below w w F:=rF
 have A:F.heap.size=w+2:=xY
 have T:F.rangeAt w 0 [z0,.float .f64 b9,z2,z3,.slice bg bk z9]:=by rw[<-gd];exact Aa (Ae w [z0,.float .f64 b9,z2,z3,.slice bg bk z9] 118) (Below.alloc (Zai _ _) (Zab _) (.cells #[zE] 3)) yF
 have V:Boxed F (w+1) 3 (.int .i64 0):=by
  rw[<-gd];have:=Zco (w.alloc (.cells #[z0,.float .f64 b9,z2,z3,.slice bg bk z9] 118)) 3 (.int .i64 0);exact Z1z
 have U:=G.below (H.mono ah)
 have M:=Kz t [z0,.float .f64 b9,z2,z3,.slice bg bk z9] F n W yE U
 rw[A]at M
 subst gd
 have a4:=Zaa A
 have Y:=Zaa T
 clear A T
 refine Z4f ?_
 refine Zhp func84 rfl trivial ?_ rfl
 simp only[ntmps84,Zfk,Zao,Zav,Nat.reduceAdd,Nat.reduceSub,Zcb,Zcc,Zff,Zdl,Zau,Zas]
 refine Zii.2 ?_
 go_wp2_with fail
 refine M.mono ?_
 rintro e a8 ⟨rfl,D⟩
 have A:=a4.out
 have a3:=D.size
 rw[A]at a3
 have b7:=Aa Y.out D yE
 have c7:Below w w a8:=H.trans (D.mono yE)
 have a2:Boxed a8 (w+1) 3 (.int .i64 0):=(D.block _ yE).trans V
 refine Z0k ?_
 intro d0 d1 d2 d3 d4
 clear H U D b7 A V M
 go_wp2_with fail
 refine Z35 ?_
 intro ag cr
 go_wp2_with fail
 have aa:ag.heap.size=a8+1:=xK
 have O:Below w w ag:=uP
 have a6:ag.rangeAt a8 0 [z0,.float .f64 b9,z2,z3,.slice bg bk z9]:=rA
 have a1:Boxed ag (w+1) 3 (.int .i64 0):=by rw[<-cr];exact a2.alloc _
 have a5:=G.below (O.mono ah)
 clear cr d0 d1 d2 d3 d4
 refine(Zii (n:=5)).1 (Gp (gf:=143) (lb:=#[zK a8]) rfl (fun _ _=>rfl)
  (Wb t _ ag n a8 a8 yE a5 a6 (.inr (Zab _)) yE yE) (fun k args X ⟨_,es,e,_⟩=>yS) Cg.trans (fun X kk a9 a0 h1 h2 h3 h4=>Cg.put h3 h4 h2 a0)
  (fun k X=>Ip w (w+1) k X) (fun _ _=>False) (fun k=>Ip.B8 yE) (fun c=>At.pure _) ⟨a1,O⟩
  (fun _ ak _=>∃v,ak={tmps:=#[.agg #[z0,.float .f64 b9,z2,z3,.slice bg bk z9],.pointer (some ⟨w,0,none⟩),.int .i64 0,.pointer (some ⟨w+1,0,none⟩),.agg #[z0,.float .f64 b9,z2,z3,.slice bg bk z9],.bool true,.agg #[z0,.float .f64 b9,z2,z3,.slice bg bk z9],.func (.func 143) #[] #[zK a8],v,undef,undef,undef],defers:=[]})
  (fun k ak=>At.pure _) ?assign ?body ?done ?stop)
 case assign=>
  exact Z2C
 case body=>
  exact Z0L
 case done=>
  exact Z1X
 case stop=>
  exact Z1Z
end
section
open Tryz Go.RowKit Go.Shelf
def Il (xs:List ByteArray) (v:zS) (i:Nat):Bool:=(xs[i]?.map fun x=>v.toList==x.toList).getD false
theorem Abi {xs:List ByteArray} {v:zS} {i:Nat} (h:i<xs):Il xs v i=(fun x=>v.toList==x.toList) xs[i]:=by simp[Il,h]
theorem T4 (a:zO) (cap:Nat) (xs:List ByteArray) (v:zS) (w:zN) (n:Nat) (hlen:xs.length<=1000000) (G:Bs w n 1 a (xs.map fun x=>[Value.string x])):
  Calls prog 150 #[.slice a xs cap,v] w fun e w'=>e=.returned (.int .i64 (E8 (Il xs v) xs))/\w=w':=by
 go_enter func150,ntmps150
 go_wp2_with fail
 go_loop [8] (fun u=>∃i:Nat,i<=xs/\u=.int .i64 i/\(∀t,t<i->Il xs v t=false)) (fun u=>xs.length - (intOf u).toNat)
 case atStart=>exact⟨0,Zap _,rfl,fun t J=>yE⟩
 case round=>
  obtain⟨i,M,rfl,F⟩:=hrel;have qa:=Zaa F;clear F;by_cases ao:i<xs
  ·have T:(i:Int) <xs.length:=by omega
   rcases G with e | ⟨b,o,rfl,O,D⟩
   ·rw[Zbr]at e;rw[e]at ao;simp at ao
   have h1:=(D i xX).1;simp only[Zbh]at h1;have d0:=h1 0 _ rfl;simp only[Zaf,Zba]at d0;have hp:=Abi (v:=v) ao;generalize xs[i]=x at d0 hp;clear D h1;cases A:Il xs v i with
   | true=>
    rw[A]at hp;have H:(v.toList==x.toList)=true:=hp.symm;have dw:=Zaa A;clear A hp;go_wp2_with fail
    go_ret;exact⟨wT,rfl⟩
   | false=>
    rw[A]at hp;have H:(v.toList==x.toList)=false:=hp.symm;have dw:=Zaa A;clear A hp;go_wp2_with fail
    go_round
    case rel=>exact⟨i+1,yE,yK,fun t J=>by
     by_cases e:t=i
     ·subst e;exact dw.out
     exact qa.out t yE⟩
    case measure=>simp[intOf];omega
  exact Z1W
theorem Aoe (xs:List ByteArray) (v:zS):(List.range xs).any (Il xs v)=xs.any fun x=>v.toList==x.toList:=St xs fun x=>v.toList==x.toList
theorem Sp (a:zO) (cap:Nat) (xs:List ByteArray) (v:zS) (w:zN) (n:Nat) (hlen:xs.length<=1000000) (D:Bs w n 1 a (xs.map fun x=>[Value.string x])):
  Calls prog 122 #[.slice a xs cap,v] w fun e w'=>e=.returned (.bool (xs.any fun x=>v.toList==x.toList))/\w=w':=by
 go_enter func122,ntmps122
 go_wp2_with fail
 refine(T4 a cap xs v w n hlen D).mono ?_
 rintro e F ⟨rfl,rfl⟩
 have A:decide (0<=E8 (Il xs v) xs)=xs.any fun x=>v.toList==x.toList:=Ky.trans (Aoe xs v)
 have eX:=Zaa A
 clear A
 go_wp2_with fail
 go_ret
 exact⟨vM,rfl⟩
def Kq (xs:List Int) (v:Int) (i:Nat):Bool:=(xs[i]?.map fun x=>v==x).getD false
theorem Abj {xs:List Int} {v:Int} {i:Nat} (h:i<xs):Kq xs v i=(fun x=>v==x) xs[i]:=by simp[Kq,h]
theorem Ad5 (a:zO) (cap:Nat) (xs:List Int) (v:Int) (w:zN) (n:Nat) (hlen:xs.length<=1000000) (G:Bs w n 1 a (xs.map fun x=>[Value.int .i64 x])):
  Calls prog 213 #[.slice a xs cap,v] w fun e w'=>e=.returned (.int .i64 (E8 (Kq xs v) xs))/\w=w':=by
 go_enter func213,ntmps213
 go_wp2_with fail
 go_loop [8] (fun u=>∃i:Nat,i<=xs/\u=.int .i64 i/\(∀t,t<i->Kq xs v t=false)) (fun u=>xs.length - (intOf u).toNat)
 case atStart=>exact⟨0,Zap _,rfl,fun t J=>yE⟩
 case round=>
  obtain⟨i,M,rfl,F⟩:=hrel;have qa:=Zaa F;clear F;by_cases ao:i<xs
  ·have T:(i:Int) <xs.length:=by omega
   rcases G with e | ⟨b,o,rfl,O,D⟩
   ·rw[Zbr]at e;rw[e]at ao;simp at ao
   have h1:=(D i xX).1;simp only[Zbh]at h1;have d0:=h1 0 _ rfl;simp only[Zaf,Zba]at d0;have hp:=Abj (v:=v) ao;generalize xs[i]=x at d0 hp;clear D h1;cases A:Kq xs v i with
   | true=>
    rw[A]at hp;have H:(v==x)=true:=hp.symm;have dw:=Zaa A;clear A hp;go_wp2_with fail
    go_ret;exact⟨wT,rfl⟩
   | false=>
    rw[A]at hp;have H:(v==x)=false:=hp.symm;have dw:=Zaa A;clear A hp;go_wp2_with fail
    go_round
    case rel=>exact⟨i+1,yE,yK,fun t J=>by
     by_cases e:t=i
     ·subst e;exact dw.out
     exact qa.out t yE⟩
    case measure=>simp[intOf];omega
  exact Z1W
theorem Aof (xs:List Int) (v:Int):(List.range xs).any (Kq xs v)=xs.any fun x=>v==x:=St xs fun x=>v==x
theorem Oo (a:zO) (cap:Nat) (xs:List Int) (v:Int) (w:zN) (n:Nat) (hlen:xs.length<=1000000) (D:Bs w n 1 a (xs.map fun x=>[Value.int .i64 x])):
  Calls prog 164 #[.slice a xs cap,v] w fun e w'=>e=.returned (.bool (xs.any fun x=>v==x))/\w=w':=by
 go_enter func164,ntmps164
 go_wp2_with fail
 refine(Ad5 a cap xs v w n hlen D).mono ?_
 rintro e F ⟨rfl,rfl⟩
 have A:decide (0<=E8 (Kq xs v) xs)=xs.any fun x=>v==x:=Ky.trans (Aof xs v)
 have eX:=Zaa A
 clear A
 go_wp2_with fail
 go_ret
 exact⟨vM,rfl⟩
end
section
open Tryz Go.RowKit Go.Shelf
def Eh (_w:zN) (_S:zT) (s:zS) (cs:zP):Prop:=cs=[.string s]
theorem Eh.Ab:Cp Eh:=fun _ _ _ _ _ _ _ _ h=>h
theorem Au.strs {w:zN} {lo:Nat} {l:List ByteArray} {a:zO} {n c:Nat} (h:Au Eh lo 9 1 w l (.slice a n c)):Bs w w 1 a (l.map fun x=>[Value.string x]):=by
 obtain⟨A,h1,h2,h3⟩:=h;have e:A=l.map fun x=>[Value.string x]:=List.ext_getElem (by simp[h2]) fun i a b=>by
  rw[Zbh];exact h3 i yE a
 rw[<-e];obtain⟨D,F,G,_⟩:=h1.shape;exact h1.Ve rfl
theorem Ym {L:Type} {x y:Tree L}:∀ {s:List (Tree L)},y∈s->x∈y.pre->x∈Tree.Dw s
 | z::r,h,A=>by
  simp only[Tree.Dw,Zew];rcases List.mem_cons.1 h with rfl | h
  ·exact .inl A
  ·exact .inr (Ym h A)
def Sz (out A:List ByteArray) (t:List Ex):Prop:=∀x∈A,x∈out\/∃y∈t,y.Ak.kind=9/\y.Ak.name=x
theorem M7:(prog.info? 9).map (fun i=>(i.size,i.bytes,i.zero.map fun z=>z.cells.size))=some (1,16,some 1):=yG
theorem K6:prog.underlying 85=some (.slice 9):=yG
theorem named (t:Ex):∀(out:List ByteArray) (v:Value) (cs:zP) (w:zN) (lo n:Nat),n<=lo->lo<=w->out.length+t.size<=100000->Au Eh lo 9 1 w out v->Ch w n t cs->
  Calls prog 254 #[v,.agg cs.toArray] w fun e w'=>∃F M,e=.returned M/\Au Eh lo 9 1 w' F M/\Sz out F t.pre/\F.length<=out.length+t.size/\Below lo w w':=by
 refine Tree.ind (P:=fun t=>∀(out:List ByteArray) (v:Value) (cs:zP) (w:zN) (lo n:Nat),n<=lo->lo<=w->out.length+t.size<=100000->Au Eh lo 9 1 w out v->Ch w n t cs->
  Calls prog 254 #[v,.agg cs.toArray] w fun e w'=>∃F M,e=.returned M/\Au Eh lo 9 1 w' F M/\Sz out F t.pre/\F.length<=out.length+t.size/\Below lo w w') (fun l s O=>?_) t
 intro out v cs w lo n a0 a2 bp a8 ah
 obtain⟨k,num,name,cap⟩:=l
 obtain⟨a,c,rfl,av,T⟩:=ah.open
 simp only[Df.cells,Zas,Zau]
 obtain⟨aq,ap,rfl,aA⟩:=a8.shape
 have a1:Below w w (w.alloc (.cells #[k,.float .f64 num,name,cap,.slice a s c] 118)):=Af _
 have U:=a8.alloc Eh.Ab (.cells #[k,.float .f64 num,name,cap,.slice a s c] 118)
 by_cases W:k=9
 ·subst W
  have D:=Sp aq ap out name (w.alloc (.cells #[.int .u8 9,.float .f64 num,name,cap,.slice a s c] 118)) _ sH U.strs;have aB:=Ae w [.int .u8 9,.float .f64 num,name,cap,.slice a s c] 118;cases ae:(out.any fun x=>name.toList==x.toList)with
  | true=>
   rw[ae]at D;have c3:=Zaa D;clear D T O;go_enter func254,ntmps254
   go_wp2_with fail
   refine c3.out.mono ?_;rintro e af ⟨rfl,rfl⟩;go_wp2_with fail
   go_ret;exact⟨out,_,rfl,U,fun x A=>.inl A,yE,a1.mono a2⟩
  | false=>
   rw[ae]at D;have c3:=Zaa D;clear D T O;have h63:out.length+1<=maxLen/\(out.length+1)*16<=140737488355328:=⟨yP,yE⟩;have ac:=Zaa h63;clear h63;go_enter func254,ntmps254
   go_wp2_with fail
   refine c3.out.mono ?_;rintro e af ⟨rfl,rfl⟩;have a9:=a1;have aE:=a9.size;have J:=U;go_wp2_with (at_builtin;go_loud (refine Am Eh.Ab rfl _ _ 85 rfl lo 9 1 16 K6 M7 yH out _ rfl J _ _ rfl yF rfl rfl yL ac.out.1 ac.out.2 yJ ?_;intro au aw ag V ax Y _ _ _))
   go_ret;refine⟨out++[name],_,rfl,V,fun x A=>?_,by simp[Tree.size],(a9.mono a2).trans Y⟩;rcases Zew.1 A with A | A
   ·exact .inl A
   simp only[Zbf]at A;exact .inr ⟨Tree.node ⟨9,num,name,cap⟩ s,by simp only[Tree.pre];exact Zey,rfl,A.symm⟩
 have aH:((k.toNat:Int)==9)=false:=D4 W
 have hlen:s.length<=100000:=wS
 have am:=Zaa O
 have an:=Zaa T
 clear T O W
 go_enter func254,ntmps254
 go_wp2_with fail
 go_loopw [0,23] (fun u v wr=>∃(i:Nat) (H:List ByteArray),i<=s/\v=.int .i64 i/\Au Eh lo 9 1 wr H u/\Sz out H (Tree.Dw s)/\H.length<=out+Tree.Bf (s.take i)/\Below lo w wr) (fun _ v _=>s.length - (intOf v).toNat)
 case atStart=>exact⟨0,out,Zap _,rfl,U,fun x A=>.inl A,by simp[Tree.Bf],a1.mono a2⟩
 case round=>
  obtain⟨i,H,ar,rfl,J,ab,ao,aa⟩:=hrel;by_cases G:i<s
  ·have aF:(i:Int) <s.length:=by omega
   rcases an.out with e | ⟨b,o,rfl,aD,a7⟩
   ·rw[e]at G;simp at G
   obtain⟨aC,h1,h2⟩:=a7 i G;have fm:=Aa h1 aa yE;have ad:=h2.below (aa.mono a0);obtain⟨z0,a4,z2,z3,a5,a6,z9,rfl⟩:=Ch.G2 h2;have a3:Below lo wr (wr.alloc (.cells #[z0,.float .f64 a4,z2,z3,.slice a5 a6 z9] 118)):=(Af _).mono xA;have aG:=I7 s i G;have hle:=Tree.Rg s (i+1);have D:=am.out s[i] (Zat G) H _ _ _ lo n a0 (by have:=aa.size;have:=a3.size;omega) sH (J.alloc Eh.Ab (.cells #[z0,.float .f64 a4,z2,z3,.slice a5 a6 z9] 118)) (ad.below (a3.mono a0));have c3:=Zaa D;obtain⟨aj,ak,rfl,_⟩:=J.shape;refine Z49 ?_;intro d0 d1 d2 d3 d4;simp only[Zaf]at d0;clear D h1 h2 fm ad a7;go_wp2_with fail
   refine Z0P ?_;rintro e ag ⟨al,v2,rfl,V,ai,aI,Y⟩;obtain⟨ay,az,rfl,_⟩:=V.shape;go_wp2_with fail
   go_roundw
   case rel=>exact⟨i+1,al,yE,yK,V,fun x A=>(ai x A).elim (ab x) (fun⟨y,hy,e⟩=>.inr ⟨y,Ym (Zat G) hy,e⟩),yE,aa.trans (a3.trans Y)⟩
   case measure=>simp[intOf];omega
  obtain rfl:i=s:=by omega
  refine Z1e ?_;intro fe;obtain⟨aj,ak,rfl,_⟩:=J.shape;go_wp2_with fail
  go_ret;rw[Zbk]at ao;exact⟨H,_,rfl,J,fun x A=>(ab x A).imp id fun⟨y,hy,e⟩=>⟨y,by simp only[Tree.pre];exact Zex _ hy,e⟩,by simp only[Tree.size];omega,aa⟩
theorem Aqd (t:Ex) (cs:zP) (w:zN) (n:Nat) (V:t.size<=10000) (A:n<=w) (D:Ch w n t cs):
  Calls prog 228 #[.agg cs.toArray] w fun e w'=>∃(out:List ByteArray) (a:zO) (c:Nat),e=.returned (.slice a out c)/\Bs w' w' 1 a (out.map fun x=>[Value.string x])/\Sz [] out t.pre/\out.length<=t.size/\Below w w w':=by
 obtain⟨z0,F,z2,z3,G,H,z9,rfl⟩:=Ch.G2 D
 have c0:=Af (w:=w) (.cells #[z0,.float .f64 F,z2,z3,.slice G H z9] 118)
 have df:=Ae w [z0,.float .f64 F,z2,z3,.slice G H z9] 118
 have W:=Zaa (Kz t _ _ n V (Zag A c0.size) (D.below (c0.mono A)))
 go_enter func228,ntmps228
 go_wp2_with fail
 refine W.out.mono ?_
 refine Z2S ?_
 intro a8 aa b7 c7
 refine Z0k ?_
 intro d0 d1 d2 d3 d4
 have a0:=c7.size
 have U:=Zaa (named t [] _ [z0,.float .f64 F,z2,z3,.slice G H z9] a8 w n A yE yJ (Au.nil Eh a8 w 9 1) (D.below (c7.mono A)))
 go_wp2_with fail
 refine U.out.mono ?_
 rintro e Y ⟨out,v,rfl,J,O,T,M⟩
 obtain⟨a,c,rfl,_⟩:=J.shape
 go_wp2_with fail
 go_ret
 exact⟨out,a,c,rfl,J.strs,O,by simpa using T,c7.trans M⟩
end
section
open Tryz Go.RowKit Go.Shelf
def Hn (ends i:Nat) (n:UInt8):Ct:=if i=ends then⟨3,0⟩else if ends<i\/170<=n then⟨2,0⟩else if 160<=n then⟨1,n*29+7⟩else⟨1,97+n%3⟩
def Gb (ends:Nat) (l:zQ):List Ct:=l.mapIdx fun i n=>Hn ends i n
theorem Ry (ends:Nat) (l:zQ) (i:Nat) (h:i<l):Gb ends (l.take (i+1))=Gb ends (l.take i)++[Hn ends i l[i]]:=by
 unfold Gb;rw[Zay h,List.mapIdx_concat];simp[Zgb (Nat.le_of_lt h)]
theorem Po (ends:Nat) (l:zQ):(Gb ends l).length=l.length:=by simp[Gb]
def Ls (l:zQ):Nat:=if h:0<l.length then(l[l.length - 1]'yE).toNat%40 else l.length
theorem Ed:(prog.info? 55).map (fun i=>(i.size,i.bytes,i.zero.map fun z=>z.cells.size))=some (2,2,some 2):=yG
theorem D5:prog.underlying 32=some (.slice 55):=yG
theorem Au.rowsOf {α:Type} {I:World->(Nat->Prop)->α->List Value->Prop} {w:zN} {lo K n c:Nat} {e:TypeId} {l:List α} {a:zO} (h:Au I lo e K w l (.slice a n c)) (cells:α->List Value) (hI:∀w S x cs,I w S x cs->cs=cells x) (A:n=l):Bs w w K a (l.map cells):=by
 subst A;obtain⟨D,h1,h2,h3⟩:=h;have e:D=l.map cells:=List.ext_getElem (by simp[h2]) fun i a b=>by
  rw[Zbh];exact hI _ _ _ _ (h3 i yE a)
 rw[<-e];exact h1.Ve rfl
theorem W5 (l:zQ) (p:Nat) (fh:l=p+1) (a:zO) (cap N:Nat) (w:zN) (n:Nat) (A:n<=w) (F:p+1<=N) (G:N<=100) (D:p+1<=cap) (a6:Bs w n 1 a (l.map fun x=>[Value.int .u8 x.toNat])):
  Calls prog 6 #[.slice a (p+1) cap,N] w fun e w'=>∃(ak:zO) (ax:Nat) (out:List Ct),e=.returned (.slice ak out ax)/\out=Gb (Ls l) l/\Bs w' w' 2 ak (out.map Ct.cells)/\out<=ax/\Below w w w':=by
 exact Z05
theorem Ze (l:zQ) (p:Nat) (fh:l=p+1) (a:zO) (cap N:Nat) (w:zN) (n:Nat) (A:n<=w) (F:p+1<N) (G:p+1<=100) (D:N<=cap) (a6:Bs w n 1 a (l.map fun x=>[Value.int .u8 x.toNat])):
  Calls prog 6 #[.slice a N cap,.int .i64 ((p:Int)+1)] w fun e w'=>∃(ak:zO) (ax:Nat) (out:List Ct),e=.returned (.slice ak out ax)/\out=Gb (Ls l) l/\Bs w' w' 2 ak (out.map Ct.cells)/\out<=ax/\Below w w w':=by
 exact Z05
theorem Rh (a:zO) (cap m:Nat) (w:zN) (hm:m<=100):
  Calls prog 6 #[.slice a 0 cap,m] w fun e w'=>e=.returned (.slice none 0 0)/\Below w w w':=by
 have A:=Zai w w
 go_enter func6,ntmps6
 go_wp2_with fail
 go_loopw [6,30] (fun u v wr=>u=.slice none 0 0/\v=.int .i64 0/\Below w w wr) (fun _ v _=>0)
 case atStart=>exact⟨rfl,rfl,A⟩
 case round=>
  obtain⟨rfl,rfl,U⟩:=hrel;exact Z3a
theorem Aak (l:zQ) (a:zO) (cap m:Nat) (w:zN) (n:Nat) (F:n<=w) (hm:0<m) (A:m<=100) (O:l<=cap) (D:Bs w n 1 a (l.map fun x=>[Value.int .u8 x.toNat])):
  Calls prog 6 #[.slice a l cap,m] w fun e w'=>∃(G:zO) (H:Nat) (out:List Ct),e=.returned (.slice G out H)/\out=Gb (Ls (l.take m)) (l.take m)/\Bs w' w' 2 G (out.map Ct.cells)/\out<=H/\Below w w w':=by
 cases J:l with
 | nil=>
  refine(Rh a cap m w A).mono ?_;rintro e w' ⟨rfl,U⟩;exact⟨none,0,[],rfl,by simp[Gb],.inl rfl,yF,U⟩
 | cons x r=>
  rw[<-J];have hlen:l.length=r+1:=by rw[J];rfl
  rcases Zga m l.length with h | h
  ·obtain⟨p,rfl⟩:∃p,m=p+1:=⟨m - 1,yE⟩
   refine Ze (l.take (p+1)) p wQ a cap l w n F h A O ?_;rcases D with e | ⟨b,o,rfl,V,T⟩
   ·rw[Zbr]at e;rw[e]at hlen;simp at hlen
   refine .inr ⟨b,o,rfl,V,fun i M=>?_⟩;rw[Zeq,Zbo]at M;have:=T i (by rw[Zeq];omega);simpa using this
  have:=W5 l r hlen a cap m w n F yE A yE D;rw[Zfp h];rw[hlen];exact this
end
section
open Tryz Go.RowKit Go.Shelf
theorem Al.at {α:Type} {I:World->(Nat->Prop)->α->List Value->Prop} {K:Nat} {w:zN} {S:zT} {l:List α} {v:Value} (h:Al I K w S l v):
  ∃a c,v=.slice a l c/\l.length<=c/\∀i (A:i<l.length),∃b o,a=some ⟨b,o,none⟩/\S b/\∃cs,w.rangeAt b (o+i*K) cs/\I w S l[i] cs:=by
 obtain⟨a,c,rfl,D,h⟩:=h
 refine⟨a,c,rfl,D,fun i A=>?_⟩
 rcases h with rfl | ⟨b,o,rfl,U,h⟩
 ·simp at A
 exact⟨b,o,rfl,U,h i A⟩
theorem Acf (t:Ex) (cs:zP) (w:zN) (n:Nat) (J:t.size<=10000) (D:n<=w) (A:Ch w n t cs):
  Calls prog 53 #[.agg cs.toArray] w fun e w'=>e=.returned (.int .i64 t.size)/\Below w w w':=by
 obtain⟨z0,F,z2,z3,G,H,z9,rfl⟩:=Ch.G2 A
 have c0:=Af (w:=w) (.cells #[z0,.float .f64 F,z2,z3,.slice G H z9] 118)
 have df:=Ae w [z0,.float .f64 F,z2,z3,.slice G H z9] 118
 have T:=Kz t _ _ n J (Zag D c0.size) (A.below (c0.mono D))
 have M:=fun X (h:n<=X.heap.size) (A)=>Aqe t [z0,.float .f64 F,z2,z3,.slice G H z9] X n J h A
 have U:=Zaa T
 have O:=Zaa M
 clear T M
 generalize t.size=W at O U J|-
 go_enter func53,ntmps53
 go_wp2_with fail
 refine U.out.mono ?_
 refine Z2S ?_
 intro a8 aa b7 c7
 refine Z0k ?_
 intro d0 d1 d2 d3 d4
 have V:=c7.size
 go_wp2_with fail
 refine(O.out _ yE (A.below (c7.mono D))).mono ?_
 exact Z3U
end
end Go.Proofs.YtafmoofknjncpaaGreatDoor
