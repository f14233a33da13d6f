
import Derived.Test.YtonlghbbdcddoaaGreatLawC
import Derived.Test.YtonlghbbdcddoaaGreatP16
set_option maxRecDepth 100000
namespace Go.Proofs.YtonlghbbdcddoaaGreat.lOrders
open Go.ChangeShapes Go.WideShapes Go.ChangeAt Go.RowKit Cl
theorem sj (b:List Nat) (hbb:b.length≤9223372036854775807) (hy:∀ x∈b,x<256):Cl.Fn Tryz.prog 3 [.a (.slv b.length 1 (ysl b))] [.val (.bool true)]:=
 tM b _ _ _ _ hbb hy rfl rfl rfl rfl
theorem lifted (os:Os) (started:os.Started) (H:Type) (enc:TypeId × Value→H):
  ReturnsInHanded {} Tryz.checked os 3 .any (Rows.fnOrdersSpec.pre6 enc Tryz.prog Tryz.f3 Rows.fnOrdersRow.domain false) (Rows.fnOrdersSpec.post enc Tryz.prog Tryz.f3 false true false false):=by
 refine returnsInHanded_of_change (C:=Tryz.checked) HJ started (by kernel_rfl) Tryz.func3
  (ChangeSpec.witness6 (enc:=enc) (C:=Tryz.checked) false ⟨#[], #[.slice none 0 0],[]⟩ 8 (by kernel_rfl) (by kernel_rfl) (by kernel_rfl) (by kernel_rfl)) ?_
 intro W base args ds gs before hval0 hW hcnd _
 have hval:∀ (j:Nat) t v,Tryz.f3.params[j]? =some t→args[j]? =some v→Value.okWide Tryz.prog W .any base t v:=hval0
 have hW':=hW
 obtain⟨p,q,hA0,hV,rfl,hfz,hnd⟩:=hW
 have hA:DataW.TrodAll enc Tryz.prog W 0 (fun _=>true) true Tryz.f3.params.toList args.toList ds p:=hA0
 rw[Tryz.params3]at hA hval
 obtain⟨v0,vs0,d0,ds0,p0,q0,hargs,rfl,rfl,h0,r0⟩:=trodAll_cons hA
 obtain⟨rfl,rfl,rfl⟩:=trodAll_nil r0
 obtain rfl:args= #[v0]:=by cases args;simp_all
 obtain⟨rfl,rfl⟩:=trodVars_none hV
 obtain⟨l0,hr0,hm0,hw0⟩:=HI (hval 0 _ v0 rfl rfl) h0
 clear hA0 hval0
 refine(kit_v (sj l0 (Nat.le_trans hm0 (by decide)) hw0) (args1 hr0)).mono fun e W' ⟨he,hg⟩=> ?_
 subst he
 exact⟨_,rfl,HQ Hs (by rw[Tryz.params3];decide+kernel) rfl rfl Tryz.underlying4 rfl hW' hg⟩
theorem over:Rows.fnOrdersRow.holds Tryz.pinned (OpenSpec.ofChange Rows.fnOrdersSpec):=
 OpenClaim.holds_of_wide 3 Tryz.f3 rfl rfl rfl rfl rfl rfl rfl ⟨rfl,rfl,rfl,rfl,rfl⟩ rfl rfl rfl rfl rfl (by kernel_rfl) Tryz.func3 (by kernel_rfl)
  (of_decide_eq_true (by kernel_rfl)) (by unfold Func.isWrapper;first |(rw[if_pos (by decide+kernel)];kernel_rfl) |(rw[if_neg (by decide+kernel)];exact⟨rfl,rfl⟩))
  (fun os started H enc _=>lifted os started H enc)
theorem proved:Rows.FnOrdersSaid:=
 over
#print axioms proved
end Go.Proofs.YtonlghbbdcddoaaGreat.lOrders
