
import Derived.Test.YtgmkkfdnmdohlaaGreatDoorLaw
import Derived.Test.YtgmkkfdnmdohlaaGreatDoorClB
set_option linter.unusedSimpArgs false
set_option linter.unusedVariables false
namespace Go.Proofs.YtgmkkfdnmdohlaaGreatDoor
open Go.ChangeShapes Go.WideShapes Go.ChangeAt Go.RowKit Go.Deep Cl
set_option maxRecDepth 20000
theorem xV {w:World} {a:Addr} {v:Value} (h:w.cell? a=some v):a=⟨a.block,a.off,none⟩:=by
 unfold World.cell? at h
 split at h
 ·obtain⟨b,o,s⟩:=a
  cases s
  ·rfl
  ·simp at h
 ·cases h
theorem zt (b o j:Nat):(⟨b,o,none⟩:Addr).add j=⟨b,o+j,none⟩:=by
 unfold Addr.add;split<;>simp_all
theorem EH {H:Type} {enc:TypeId × Value→H} {W:World} {r:Reach} {b:Nat} {v:Value} {d:DataW H} {p:List MemPlace} (hok:Value.okWide Tryz.prog W r b 43 v)
  (h:DataW.Trod enc Tryz.prog W 0 (fun _=>true) true 43 v d p):
  ∃ l:List Nat,RelB ρ0 (I0 W) W (.a (.slv l.length 1 (ysl l))) v∧l.length≤maxLen∧(∀ z∈l,z<256):=by
 obtain⟨a0,len,cap,rfl⟩:=okWide_slice Tryz.underlying43 hok
 obtain⟨fuel,hf⟩:=h
 have hc:Tryz.prog.cellsOf 5=1:=by kernel_rfl
 rcases open_ints Tryz.underlying43 Tryz.underlying5 hc hf with⟨hcs,_⟩ |⟨a,len',cap',zs,hcs,_,hl,hm,hz,_,hcell,hwz⟩
 ·simp [Value.cells]at hcs
  obtain⟨rfl,rfl,rfl⟩:=hcs
  exact⟨[],⟨by simp [ysl],none,0,rfl,Nat.le_refl _,fun h=>absurd h (by simp)⟩,Nat.zero_le _,by simp⟩
 ·simp [Value.cells]at hcs
  obtain⟨rfl,rfl,rfl⟩:=hcs
  simp only[if_true]at hz
  have hw:∀ z∈zs,0≤z∧z<256:=fun z hzm=>by
   have:=hwz z hzm
   unfold Lit.wf at this
   simp only[Bool.and_eq_true,decide_eq_true_eq]at this
   have e1:IntKind.u8.min=0:=by decide
   have e2:IntKind.u8.max=255:=by decide
   rw[e1,e2]at this;omega
  have hlen:((zs.take len).map Int.toNat).length=len:=by simp;omega
  refine⟨(zs.take len).map Int.toNat,?_,by rw[hlen];omega,fun z hzm=> ?_⟩
  ·refine⟨by simp [ysl],some a,cap,by rw[hlen],by rw[hlen];exact hl,fun hn=> ?_⟩
   rw[hlen]at hn
   have h0:=hcell 0 (by omega)
   have ea:a.add 0=a:=by unfold Addr.add;simp
   rw[ea]at h0
   have e:=xV h0
   refine⟨a.block,a.off,by rw[←e],Gw h0,fun j x hx=> ?_⟩
   have hj:j<len:=by
    have:=(List.getElem?_eq_some_iff.1 hx).1
    rw[wU,hlen]at this;omega
   have hcj:=hcell j (by omega)
   rw[e,zt]at hcj
   rw[hcj,←hx,Bo (by rw[hlen];exact hj),Ea (by rw[hlen];exact hj)]
   have hzj:=hw (zs[j]'(by omega)) (List.getElem_mem _)
   simp only[List.getElem_map,List.getElem_take]
   have eg:zs.getD j 0=zs[j]'(by omega):=by rw[List.getD_eq_getElem?_getD,List.getElem?_eq_getElem (by omega)];rfl
   rw[eg]
   congr 2
   omega
  ·obtain⟨y,hy,rfl⟩:=List.mem_map.1 hzm
   have:=hw y (List.mem_of_mem_take hy)
   omega
end Go.Proofs.YtgmkkfdnmdohlaaGreatDoor
