
import Derived.Test.YtgmkkfdnmdohlaaGreatDoorBase
import Derived.Carry
import Derived.Deep.Slices
import Derived.Deep.Fields
import Derived.ChangeSame
import Derived.Lib.SmallJoins
set_option linter.unusedSimpArgs false
set_option linter.unusedVariables false
namespace Go.Proofs.YtgmkkfdnmdohlaaGreatDoor
set_option maxRecDepth 20000
open Go.ChangeShapes Go.WideShapes Go.ChangeAt Go.RowKit Go.Deep
theorem Ev:laidOutB Tryz.prog=true:=by kernel_rfl
theorem EK:ownKnob Tryz.prog.godebug=none:=by kernel_rfl
theorem uk {H:Type} {enc:TypeId × Value→H} {P:Program} (hl:laidOutB P=true) {W W':World} {sp':Nat→Bool} {ts:List TypeId} {vs:List Value} {ds:List (DataW H)} {ps:List MemPlace}
    (hr:∀ t∈ts,P.readableRec t=true∧t<P.types.size) (h:DataW.TrodAll enc P W 0 (fun _=>true) true ts vs ds ps) (hsame:∀ p∈ps,W.sameAt W' p) (hs:∀ p∈ps,sp' p.block=true):
    DataW.TrodAll enc P W' 0 sp' true ts vs ds ps:=by
  induction ts generalizing vs ds ps with
  | nil=>
    match vs,ds,h with
    | [],[],h=>exact h
  | cons t ts ih=>
    match vs,ds,h with
    | v::vs,d::ds,⟨p,q,h1,h2,hp⟩=>
      subst hp
      refine⟨p,q,?_,?_,rfl⟩
      · exact WideElems.Trod_stays hl (hr t (by simp)).1 (hr t (by simp)).2 h1 (fun x hx=>hsame x (by simp [hx])) (fun x hx=>hs x (by simp [hx]))
      · exact ih (fun t ht=>hr t (by simp [ht])) h2 (fun x hx=>hsame x (by simp [hx])) (fun x hx=>hs x (by simp [hx]))
theorem ES {H:Type} {enc:TypeId × Value→H} {P:Program} {f:Func} {s:ChangeSpec} {W W':World} {args:Array Value} {ds gs:List (DataW H)} {before:List MemPlace} {tb:TypeId}
  (hl:laidOutB P=true) (hr:∀ t∈f.params.toList,P.readableRec t=true∧t<P.types.size) (hv:s.vars=[]) (hres:f.resultTypes= #[tb]) (hb:P.underlying tb=some .bool)
  (hs:s.fn H (ds++gs)= { results:=[.lit (.bool true)],args:=ds })
  (hW:DataW.Whole enc P f.params.toList s.vars false W args.toList ds gs before) (hbl:Below W.heap.size W W'):
  s.post enc P f false true false false W args (.bool true) W':=by
 have hlt:∀ p∈before,p.block<W.heap.size:=fun p hp=>hW.lt p hp
 have hW0:=hW
 obtain⟨p,q,hA,hV,rfl,_,_⟩:=hW
 rw[hv]at hV
 obtain⟨rfl,rfl⟩:=trodVars_none hV
 refine⟨ds,[],p++[],[],p,[],hW0,?_,?_,?_,?_,fun h=>by cases h⟩
 ·rw[hs,hres]
  exact trodAll_cons_mk (shut_bool hb _) trodAll_mk0
 ·rw[hs]
  exact uk hl hr hA (fun x hx=>hbl.same (hlt x (by simp [hx]))) (fun x hx=>by simpa using hlt x (by simp [hx]))
 ·rw[hs,hv]
  exact rfl
 ·exact hbl.frame _
theorem Gw {w:World} {a:Addr} {v:Value} (h:w.cell? a=some v):a.block<w.heap.size:=by
 rcases Nat.lt_or_ge a.block w.heap.size with hlt |hge
 ·exact hlt
 ·simp [World.cell?,Array.getElem?_eq_none hge]at h
end Go.Proofs.YtgmkkfdnmdohlaaGreatDoor
