/- ModelWrong holds: for every input the call returns true and leaves its arguments as they were; the listed variables are laid as the program lays them. -/
import Derived.Test.YtafmoofknjncpaaGreatDoorCards
import Derived.Test.YtafmoofknjncpaaGreatDoorTie
import Derived.LaidMore
import Derived.Lay
import Derived.SevenTiedAt
import Derived.Stop.Joined
import Derived.Test.YtafmoofknjncpaaGreatDoorQb
import Derived.Test.YtafmoofknjncpaaGreatDoorQe
import Derived.Test.YtafmoofknjncpaaGreatDoorQn
import Derived.Test.YtafmoofknjncpaaGreatDoorQo
import Derived.Test.YtafmoofknjncpaaGreatDoorQp
set_option linter.all false
set_option maxRecDepth 100000
set_option maxHeartbeats 8000000
namespace Go.Proofs.YtafmoofknjncpaaGreatDoor.modelWrong
open Go.ChangeShapes Go.WideShapes Go.ChangeAt Go.RowKit
theorem own:ownKnob Tryz.prog.godebug=none:=by kernel_rfl
theorem laidOut:laidOutB Tryz.prog=true:=by kernel_rfl
theorem Aag:Tryz.prog.underlying 25=some (.struct #[⟨ "Buffer",5,0,false, "", "",0⟩,⟨ "Values",22,1,false, "", "",8⟩,⟨ "States",23,2,false, "", "",32⟩]):=by kernel_rfl
theorem Ade:Tryz.prog.cellsOf 25=3:=by kernel_rfl
theorem Anp {W:World} {l:List UInt8} {v:Value} (h:Al Nb 1 W (fun b=>b<W.heap.size) l v):∃a c,v=.slice a l.length c/\l.length<=c/\Bs W W.heap.size 1 a (l.map fun x=>[Value.int .u8 x.toNat]):=by
 obtain⟨a,c,rfl,hc,h0 | ⟨b,o,rfl,hb,hi⟩⟩:=h
 ·exact⟨a,c,rfl,hc,.inl (by rw[h0];rfl)⟩
 ·refine⟨_,c,rfl,hc,.inr ⟨b,o,rfl,hb,fun i h=>?_⟩⟩
  obtain⟨cs,h1,h2⟩:=hi i (by simpa using h);rw[Zbh];exact⟨by rw[<-show cs=[Value.int .u8 (l[i]'(by simpa using h)).toNat]from h2];exact h1,rfl⟩
theorem lifted (os:Os) (started:os.Started) (H:Type) (enc:TypeId×Value->H):
  ReturnsInHanded {} Tryz.checked os 3 .any (fun w args=>(Rows.modelWrongSpec.pre enc Tryz.prog Tryz.f3 Rows.modelWrongRow.domain false w args/\laidMetH Tryz.prog Rows.modelWrongRow.laid w)/\sizedMet enc Tryz.prog Tryz.f3 (OpenSpec.ofChange Rows.modelWrongSpec) false w args)
   (Rows.modelWrongSpec.post enc Tryz.prog Tryz.f3 false true false false):=by
 refine returnsInHanded_of_change_and (C:=Tryz.checked) (X:=fun w _=>laidMetH Tryz.prog Rows.modelWrongRow.laid w) (fun _ _ _ hh h=>h.of_heap hh) own started (by kernel_rfl) Tryz.func3
  (ChangeSpec.witness_shaped (enc:=enc) (C:=Tryz.checked) (os:=os) (X:=fun w _=>laidMetH Tryz.prog Rows.modelWrongRow.laid w) false (World.laidAll Tryz.prog os Rows.modelWrongRow.laid) #[.agg #[.int .u8 0,.slice none 0 0,.slice none 0 0],.int .u8 0,.slice none 0 0] 8 (World.laidAll_os _ _ _)
   (World.shaped_of_ZipB (by kernel_rfl) (by kernel_rfl)) (by kernel_rfl) (by kernel_rfl) (by kernel_rfl)
   (by rw[MakeChecks.laidMetH_plain _ _ _ (by kernel_rfl)];exact laidMet_laidAll _ (by kernel_rfl) (by kernel_rfl))) ?_
 intro W base args ds gs before hval0 hW _ _ _ _
 have hval:∀(j:Nat) t v,Tryz.f3.params[j]? =some t->args[j]? =some v->Value.okWide Tryz.prog W .any base t v:=hval0
 have hW':=hW
 obtain⟨p,q,hA0,hV,rfl,hfz,hnd⟩:=hW
 have hA:DataW.TrodAll enc Tryz.prog W 0 (fun _=>true) true Tryz.f3.params.toList args.toList ds p:=hA0
 rw[Tryz.params3]at hA hval
 obtain⟨v0,vs0,d0,ds0,p0,q0,hargs,rfl,rfl,h0,r0⟩:=trodAll_cons hA
 obtain⟨v1,vs1,d1,ds1,p1,q1,rfl,rfl,rfl,h1,r1⟩:=trodAll_cons r0
 obtain⟨v2,vs2,d2,ds2,p2,q2,rfl,rfl,rfl,h2,r2⟩:=trodAll_cons r1
 obtain⟨rfl,rfl,rfl⟩:=trodAll_nil r2
 obtain rfl:args=#[v0,v1,v2]:=by cases args;simp_all
 obtain⟨rfl,rfl⟩:=trodVars_none hV
 obtain⟨acs,rfl,hsz⟩:=okWide_struct Aag (hval 0 25 v0 rfl rfl)
 have k0:=h0
 have lt0:∀x∈p0,x.block<W.heap.size:=by obtain⟨m,hm⟩:=k0;exact DataW.trod_lt m _ _ _ hm
 obtain⟨x,hx,hvl⟩:∃y,Mj W (fun b=>b<W.heap.size) y acs.toList/\y.values.length<=maxLen:=by
  obtain⟨fuel,hf⟩:=h0;exact Agl (by rw[Ade]at hsz;simpa using hsz) (by simpa[Value.cells]using hf)
 obtain⟨a1,rfl,rfl,rfl,w1⟩:=open_int Tryz.underlying5 (hval 1 5 v1 rfl rfl) h1
 obtain⟨way,rfl⟩:=Amz w1
 have k2:=h2
 have lt2:∀x∈p2,x.block<W.heap.size:=by obtain⟨m,hm⟩:=k2;exact DataW.trod_lt m _ _ _ hm
 obtain⟨a2,len2,cap2,rfl⟩:=okWide_slice (show Tryz.prog.underlying 22=some (.slice 5)by kernel_rfl) (hval 2 22 v2 rfl rfl)
 obtain⟨l,v,e2,hl,-⟩:∃(l:List UInt8) (v:Value),[Value.slice a2 len2 cap2]=[v]/\Al Nb 1 W (fun b=>b<W.heap.size) l v/\l.length<=maxLen:=by
  obtain⟨fuel,hf⟩:=h2;exact Qx hf
 obtain⟨la,lc,rfl,hlc,hrow⟩:=Anp hl
 simp only[Zdm,Zhd,Zhm]at e2
 obtain⟨rfl,rfl,rfl⟩:=e2
 clear hA0 hval0
 have hwalk:=Afh (fun X=>Ajw X) x hvl way l a2 cap2 hlc acs.toList W W.heap.size (Zab _) hx hrow
 simp only[Array.toArray_toList]at hwalk
 refine hwalk.mono fun e W' ⟨he,Qe⟩=>?_
 subst he
 exact⟨_,rfl,_,_,_,[],_,[],hW',trodAll_mk1 (shut_bool Tryz.underlying4 _),(trodAll_cons_mk (Below.trod laidOut (by kernel_rfl) (Zib (by kernel_rfl)) k0 Qe lt0) (trodAll_cons_mk (shut_int Tryz.underlying5 w1) (trodAll_cons_mk (Below.trod laidOut (by kernel_rfl) (Zib (by kernel_rfl)) k2 Qe lt2) trodAll_mk0))),rfl,Qe.frame _,fun h=>by cases h⟩
theorem over:Rows.ModelWrongSaid:=
 OpenClaim.holds_of_wide 3 Tryz.f3 rfl rfl rfl rfl rfl rfl rfl ⟨rfl,rfl,rfl,rfl,rfl⟩ rfl rfl rfl rfl rfl (by kernel_rfl) Tryz.func3 Af4
  (Zib (by kernel_rfl)) (by unfold Func.isWrapper;first | (rw[if_pos (by decide+kernel)];kernel_rfl) | (rw[if_neg (by decide+kernel)];exact⟨rfl,rfl⟩))
  (fun os started H enc _=>lifted os started H enc)
theorem proved:Rows.ModelWrongCardSaid:=
 Claim7.holds_tied_plain_at .later [] [.data,.data,.widerDeep,.widerDeep,.data,.data,.data,.data,.data,.data,.sentinel,.sentinel,.pinned,.pinned,.pinned] true (true, "3e70e75e36ff179fb68a6a7d1760a2512060ba8ea3b55ddafc310f5dfd52ad8a") true over (fun _ h=>by cases h) (by kernel_rfl) (fun _ h=>by cases h) modelWrong_row_tie rfl ⟨rfl,rfl⟩ (by kernel_rfl) rfl
  (fun f fn hf hfn=>by
   obtain rfl:f=3:=Zgq ((show Tryz.prog.funcNamed "repartee/reparteelaw36.ModelWrong" =some 3 by kernel_rfl).symm.trans hf) |>.symm;obtain rfl:fn=Tryz.f3:=(Zgq (Tryz.func3.symm.trans hfn)).symm;exact⟨by kernel_rfl,fun j t ht=>by
    rw[Tryz.params3]at ht;have hm:t∈[25,5,22]:=by simpa using Array.mem_of_getElem? ht
    have hall:([25,5,22].all fun u=> !Tryz.prog.wantsStandIn u)=true:=by kernel_rfl
    exact(show Tryz.prog.wantsStandIn t=false by simpa using List.all_eq_true.1 hall t hm)⟩)
  Akv
end Go.Proofs.YtafmoofknjncpaaGreatDoor.modelWrong
