/- Walks. -/
import Derived.Test.YtonlghbbdcddoaaGreatC0
import Derived.Test.YtonlghbbdcddoaaGreatClB
set_option maxHeartbeats 4000000
set_option maxRecDepth 100000
namespace Go.Proofs.YtonlghbbdcddoaaGreat
namespace Cl
open Go.ChangeShapes Go.WideShapes Go.ChangeAt Go.RowKit
theorem lW (c:Cel):(qN c).length=4:=rfl
theorem CE {l:List Int} {k:Nat} (hk:k<l.length) (h:inB (gI l k) 0 255=false):aU l=false:=by
 unfold aU fE
 have:l.all (fun x=>inB x 0 255)=false:=by
  rw[List.all_eq_false];exact⟨l[k],List.getElem_mem hk,by rw[cQ hk]at h;simp [h]⟩
 rw[this];simp
theorem Bc {l:List Int} (h:fE l 0 255=true):aU l=decide (l.length≤8):=by unfold aU;rw[h];simp
theorem Bu {l:List Int} {k:Nat} (hk:k<l.length) (h:fE (l.take k) 0 255=true) (h2:inB (gI l k) 0 255=true):fE (l.take (k+1)) 0 255=true:=by
 unfold fE at*;rw[List.take_succ_eq_append_getElem hk,List.all_append,h];simp [←cQ hk,h2]
theorem EA {l:List Int} {k:Nat} (hk:¬(k:Int)<(l.length:Int)) (h:fE (l.take k) 0 255=true):fE l 0 255=true:=by rwa [List.take_of_length_le (by omega)]at h
theorem oW:∀ (a b:Int),Tryz.prog.built 67 [(0,.int .i64 a),(1,.int .i64 b)]=some ([.int .i64 a,.int .i64 b]:List Value).toArray:=fun _ _=>rfl
theorem eC:ce Tryz.prog 26 0=some 0:=by kernel_rfl
theorem jW:ce Tryz.prog 67 0=some 0:=by kernel_rfl
theorem gf:ce Tryz.prog 67 1=some 1:=by kernel_rfl
theorem vq:(Tryz.prog.info? 3).map (·.size)=some 1:=by kernel_rfl
theorem Fm:(Tryz.prog.info? 67).map (·.size)=some 2:=by kernel_rfl
theorem fK:TI Tryz.prog 24 false 1:=⟨⟨_,Tryz.underlying24,rfl⟩,by kernel_rfl⟩
theorem jk:TI Tryz.prog 26 true 1:=⟨⟨_,Tryz.underlying26,rfl⟩,by kernel_rfl⟩
theorem eG:TI Tryz.prog 3 false 1:=⟨⟨_,Tryz.underlying3,rfl⟩,by kernel_rfl⟩
theorem dg:TI Tryz.prog 67 true 2:=⟨⟨_,Tryz.underlying67,rfl⟩,by kernel_rfl⟩
theorem fL:Tryz.prog.underlying 24=some (.slice 3):=Tryz.underlying24
theorem HX:Tryz.prog.underlying 3=some (.int .i64):=Tryz.underlying3
theorem dM:Tryz.prog.underlying 63=some (.slice 67):=Tryz.underlying63
theorem Fo:Tryz.prog.underlying 81=some (.int .u64):=Tryz.underlying81
theorem dN:ZI Tryz.prog 67 (.agg #[.int .i64 0,.int .i64 0]) 2 16:=by unfold ZI;kernel_rfl
theorem pv (c:Cel):Fn Tryz.prog 106 [.agg ([vI c.x,vI c.y].map A.val)] [.row 67 2 (nbs c).length (csl (nbs c))]:=by
 refine aN (N:=48) Tryz.func106 rfl (by kernel_rfl) rfl (Nat.le_of_ble_eq_true rfl) [1,5,7,9,34,35,41,44,45] (dB rfl) (fun W=> ?_)
 show Wp _ _ _ [kV 0 (V.av [vI c.x,vI c.y]),kF 1,kF 5,kF 7,kF 9,kF 34,kF 35,kF 41,kF 44,kF 45]
 refine sq (rg ?_)
 refine z ?_ (h:=fun Z=>aM (h:=1) Z xt (by exact ob1 rfl))
 refine zk (nl (sq (sq (rg ?_))))
 refine z ?_ (h:=fun Z=>aa (xs:=[vI c.x,vI c.y].map A.val) Z dg rfl (by decide) rfl)
 refine z ?_ (h:=fun Z=>ah Z (dw c ) (ac (ArgV.va va) an) rv)
 refine z ?_ (h:=fun Z=>aK Z vt (bE rfl))
 refine nl ?_
 refine wi (b:=(!(okc c.x c.y))) (fun c1=> ?_) (fun c1=> ?_)
 ·skip
  have c2:(okc c.x c.y)=false:=by first |(rw[←Bool.not_eq_true'];exact c1) |simpa using c1
  have c2Q:=iz.1 c2
  refine sq (rg (zk (nl (aq ?_))))
  exact VRes.tmp _ _ _ (by exact rfl) (EF (L:=(nbs c)) (by(simp_all [nbs];done)))
 ·skip
  have c3:(okc c.x c.y)=true:=by first |(rw[←Bool.not_eq_false'];exact c1) |simpa using c1
  have c3Q:=bz.1 c3
  refine sk (sq (rg ?_))
  refine z ?_ (h:=fun Z=>b0C (h:=9) Z dM dN)
  refine za (nl (sq (sq (rg ?_))))
  refine z ?_ (h:=fun Z=>ak (off':=0) Z jW rfl)
  refine z ?_ (h:=fun Z=>ai (x:= .val (.int .i64 c.x)) Z eG (by exact rfl))
  refine z ?_ (h:=fun Z=>ak (off':=1) Z gf rfl)
  refine z ?_ (h:=fun Z=>ai (x:= .val (.int .i64 c.y)) Z eG (by exact rfl))
  refine z ?_ (h:=fun Z=>ab Z vt vc (rS (by omega) (by omega)))
  refine z ?_ (h:=fun Z=>bC Z oW vt vt)
  refine z ?_ (h:=fun Z=>ak (off':=0) Z jW rfl)
  refine z ?_ (h:=fun Z=>ai (x:= .val (.int .i64 c.x)) Z eG (by exact rfl))
  refine z ?_ (h:=fun Z=>ab Z vt vc (rS (by omega) (by omega)))
  refine z ?_ (h:=fun Z=>ak (off':=1) Z gf rfl)
  refine z ?_ (h:=fun Z=>ai (x:= .val (.int .i64 c.y)) Z eG (by exact rfl))
  refine z ?_ (h:=fun Z=>bC Z oW vt vt)
  refine z ?_ (h:=fun Z=>ak (off':=0) Z jW rfl)
  refine z ?_ (h:=fun Z=>ai (x:= .val (.int .i64 c.x)) Z eG (by exact rfl))
  refine z ?_ (h:=fun Z=>ab Z vt vc (rA (by omega) (by omega)))
  refine z ?_ (h:=fun Z=>ak (off':=1) Z gf rfl)
  refine z ?_ (h:=fun Z=>ai (x:= .val (.int .i64 c.y)) Z eG (by exact rfl))
  refine z ?_ (h:=fun Z=>bC Z oW vt vt)
  refine z ?_ (h:=fun Z=>ak (off':=0) Z jW rfl)
  refine z ?_ (h:=fun Z=>ai (x:= .val (.int .i64 c.x)) Z eG (by exact rfl))
  refine z ?_ (h:=fun Z=>ak (off':=1) Z gf rfl)
  refine z ?_ (h:=fun Z=>ai (x:= .val (.int .i64 c.y)) Z eG (by exact rfl))
  refine z ?_ (h:=fun Z=>ab Z vt vc (rA (by omega) (by omega)))
  refine z ?_ (h:=fun Z=>bC Z oW vt vt)
  refine z ?_ (h:=fun Z=>aR (h:=34) (xs:=csl ([(⟨c.x,(c.y-1)⟩:Cel),(⟨(c.x-1),c.y⟩:Cel),(⟨(c.x+1),c.y⟩:Cel),(⟨c.x,(c.y+1)⟩:Cel)]:List Cel)) Z dM dN (.cons va (.cons va (.cons va (.cons va OpVs.nil)))) (by decide) (by decide) (by kernel_rfl) rfl)
  refine z ?_ (h:=fun Z=>lnS (iv:=4) Z dM)
  refine z ?_ (h:=fun Z=>mc Z)
  refine nl (bkk ?_)
  refine bf (fun(k:Nat)=>k≤4) (fun(k:Nat)=>[kS 3 9 0 ((((qN c).take k).filter (fun z:Cel=>okc z.x z.y)).length),kS 34 34 0 4,kI 35 4,kI 36 ((k:Nat):Int),kO 9 67 2 true (pl (csl (((qN c).take k).filter (fun z:Cel=>okc z.x z.y)))),kO 34 67 2 true (pl (csl [(⟨c.x,(c.y-1)⟩:Cel),(⟨(c.x-1),c.y⟩:Cel),(⟨(c.x+1),c.y⟩:Cel),(⟨c.x,(c.y+1)⟩:Cel)])),kF 1,kF 5,kF 7,kF 35,kF 41,kF 44,kF 45]) (fun(k:Nat)=>4-k) ((0:Nat)) (by exact(by omega:0≤4)) (wkf id (wE (e:=(vsl (by rfl) rfl))<|wS<|wS<|wE (e:=(aO (by rfl)))<|wO (e:=aG (fun h=>h) (congrArg csl (by rfl)))<|wP<|wF<|wF<|wF<|wF<|wF<|wF<|wF<|wN)) ?_
  rintro k inv4
  replace inv4:k≤4:=inv4
  have inv:=inv4
  have hfl:=rO (fun z:Cel=>okc z.x z.y) (qN c) k
  refine sq (rg ?_)
  refine z ?_ (h:=fun Z=>ab Z vt vt (bP rfl))
  refine nl (sq ?_)
  refine wi (fun c5=> ?_) (fun c5=> ?_)
  ·skip
   have c5P:=of_decide_eq_true c5
   refine sk (sq (bkk (sq (rg ?_))))
   refine z ?_ (h:=fun Z=>ix0 Z dM Fm vt (hlt:=(by omega)))
   refine z ?_ (h:=fun Z=>lC Z dg (by(simp only[List.length_cons,List.length_nil];omega)))
   refine z ?_ (h:=fun Z=>aF (h:=5) (cap:=1) (s:=2) (cells:=[aI 0,aI 0]) Z dN rfl rfl (by decide))
   refine z ?_ (h:=fun _=>aw (cells:=[aI ((gC [(⟨c.x,(c.y-1)⟩:Cel),(⟨(c.x-1),c.y⟩:Cel),(⟨(c.x+1),c.y⟩:Cel),(⟨c.x,(c.y+1)⟩:Cel)] k).x),aI ((gC [(⟨c.x,(c.y-1)⟩:Cel),(⟨(c.x-1),c.y⟩:Cel),(⟨(c.x+1),c.y⟩:Cel),(⟨c.x,(c.y+1)⟩:Cel)] k).y)]) dg xt (by exact rfl) (by decide) (by exact ob1 rfl) (by exact Nat.le_of_ble_eq_true rfl) (by exact rfl))
   refine nl (sq (rg ?_))
   refine z ?_ (h:=fun Z=>aa (xs:=[vI ((gC [(⟨c.x,(c.y-1)⟩:Cel),(⟨(c.x-1),c.y⟩:Cel),(⟨(c.x+1),c.y⟩:Cel),(⟨c.x,(c.y+1)⟩:Cel)] k).x),vI ((gC [(⟨c.x,(c.y-1)⟩:Cel),(⟨(c.x-1),c.y⟩:Cel),(⟨(c.x+1),c.y⟩:Cel),(⟨c.x,(c.y+1)⟩:Cel)] k).y)].map A.val) Z dg rfl (by decide) rfl)
   refine z ?_ (h:=fun Z=>ah Z (dw (gC [(⟨c.x,(c.y-1)⟩:Cel),(⟨(c.x-1),c.y⟩:Cel),(⟨(c.x+1),c.y⟩:Cel),(⟨c.x,(c.y+1)⟩:Cel)] k) ) (ac (ArgV.va va) an) rv)
   refine nl ?_
   refine wi (b:=(okc (gC [(⟨c.x,(c.y-1)⟩:Cel),(⟨(c.x-1),c.y⟩:Cel),(⟨(c.x+1),c.y⟩:Cel),(⟨c.x,(c.y+1)⟩:Cel)] k).x (gC [(⟨c.x,(c.y-1)⟩:Cel),(⟨(c.x-1),c.y⟩:Cel),(⟨(c.x+1),c.y⟩:Cel),(⟨c.x,(c.y+1)⟩:Cel)] k).y)) (fun c6=> ?_) (fun c6=> ?_)
   ·skip
    have c6Q:=bz.1 c6
    refine rg (zm ?_)
    refine z ?_ (h:=fun Z=>aa (xs:=[vI ((gC [(⟨c.x,(c.y-1)⟩:Cel),(⟨(c.x-1),c.y⟩:Cel),(⟨(c.x+1),c.y⟩:Cel),(⟨c.x,(c.y+1)⟩:Cel)] k).x),vI ((gC [(⟨c.x,(c.y-1)⟩:Cel),(⟨(c.x-1),c.y⟩:Cel),(⟨(c.x+1),c.y⟩:Cel),(⟨c.x,(c.y+1)⟩:Cel)] k).y)].map A.val) Z dg rfl (by decide) rfl)
    refine z ?_ (h:=fun Z=>aR (h:=44) (xs:=csl ([(gC [(⟨c.x,(c.y-1)⟩:Cel),(⟨(c.x-1),c.y⟩:Cel),(⟨(c.x+1),c.y⟩:Cel),(⟨c.x,(c.y+1)⟩:Cel)] k)]:List Cel)) Z dM dN (.cons va OpVs.nil) (by decide) (by decide) (by kernel_rfl) rfl)
    refine z ?_ (h:=fun Z=>aC_ (h2:=45) (L3:=(((qN c).take k).filter (fun z:Cel=>okc z.x z.y)++[(gC [(⟨c.x,(c.y-1)⟩:Cel),(⟨(c.x-1),c.y⟩:Cel),(⟨(c.x+1),c.y⟩:Cel),(⟨c.x,(c.y+1)⟩:Cel)] k)])) Z dM dN (by exact rfl) rfl (by exact rfl) (by(simp;omega)))
    refine za (nl (rg ?_))
    refine z ?_ (h:=fun Z=>ab Z vt vc (rA (by omega) (by omega)))
    refine zm (nl ?_)
    exact ar ((k+1)) (by show _≤_;omega) (by show 4-(k+1)<4-k;omega) (wkf (bn [(9,45)]) (wE (e:=(vsl (by(exact congrArg List.length (by first |rfl |exact je (l:=qN c) (by simp only[lW];omega) (by assumption) |exact kL (l:=qN c) (by simp only[lW];omega) (by assumption) |omega))) rfl))<|wS<|wS<|wE (e:=(aO (by rfl)))<|wO (e:=aG (fun h=>h) (congrArg csl (by exact je (l:=qN c) (by simp only[lW];omega) (by assumption))))<|wP<|wF<|wF<|wF<|wF<|wF<|wF<|wF<|wN))
   ·skip
    have c6Q:=iz.1 c6
    refine sk (rg ?_)
    refine z ?_ (h:=fun Z=>ab Z vt vc (rA (by omega) (by omega)))
    refine zm (nl ?_)
    exact ar ((k+1)) (by show _≤_;omega) (by show 4-(k+1)<4-k;omega) (wkf id (wE (e:=(vsl (by(exact congrArg List.length (by first |rfl |exact je (l:=qN c) (by simp only[lW];omega) (by assumption) |exact kL (l:=qN c) (by simp only[lW];omega) (by assumption) |omega))) rfl))<|wS<|wS<|wE (e:=(aO (by rfl)))<|wO (e:=aG (fun h=>h) (congrArg csl (by exact kL (l:=qN c) (by simp only[lW];omega) (by assumption))))<|wP<|wF<|wF<|wF<|wF<|wF<|wF<|wF<|wN))
  ·skip
   have c5P:=of_decide_eq_false c5
   refine aJ (sq (rg (zm (za (nl (aq ?_))))))
   exact VRes.tmp _ _ _ (by exact rfl) (it (h:=9) (L:=(((qN c).take k).filter (fun z:Cel=>okc z.x z.y))) (by kernel_rfl) (by(have e:k=4:=by omega);subst e;unfold nbs;rw[if_pos (by assumption)];rfl) (by rfl))
theorem pF (c:Cel):Fn Tryz.prog 108 [.agg ([vI c.x,vI c.y].map A.val)] [.row 67 2 (nbs c).length (csl (nbs c))]:=by
 refine aN (N:=25) Tryz.func108 rfl (by kernel_rfl) rfl (Nat.le_of_ble_eq_true rfl) [1,5,7,14,19,22,23] (dB rfl) (fun W=> ?_)
 show Wp _ _ _ [kV 0 (V.av [vI c.x,vI c.y]),kF 1,kF 5,kF 7,kF 14,kF 19,kF 22,kF 23]
 refine sq (rg ?_)
 refine z ?_ (h:=fun Z=>aM (h:=1) Z xt (by exact ob1 rfl))
 refine zk (nl (sq (rg ?_)))
 refine z ?_ (h:=fun Z=>b0C (h:=7) Z dM dN)
 refine za (nl (sq (sq (rg (zk (nl (bkk ?_)))))))
 refine bf (fun(k:Nat)=>k≤64) (fun(k:Nat)=>[kP 1 1 0,kS 3 7 0 ((((List.range k).filter (fun i=>nbr c (cN i))).map cN).length),kI 4 ((k:Nat):Int),kO 1 67 2 true [aI c.x,aI c.y],kO 7 67 2 true (pl (csl (((List.range k).filter (fun i=>nbr c (cN i))).map cN))),kF 5,kF 14,kF 19,kF 22,kF 23]) (fun(k:Nat)=>64-k) ((0:Nat)) (by exact(by omega:0≤64)) (wkf id (wS<|wE (e:=(vsl (by rfl) rfl))<|wE (e:=(aO (by rfl)))<|wX<|wO (e:=aG (fun h=>h) (congrArg csl (by rfl)))<|wF<|wF<|wF<|wF<|wF<|wN)) ?_
 rintro k inv1
 replace inv1:k≤64:=inv1
 have inv:=inv1
 have hfl:=ml (fun i=>nbr c (cN i)) k
 refine sq (sq (rg (zm ?_)))
 refine z ?_ (h:=fun Z=>ab Z vt vc (bP rfl))
 refine nl ?_
 refine wi (fun c2=> ?_) (fun c2=> ?_)
 ·skip
  have c2P:=of_decide_eq_true c2
  refine sk (sq (bkk (sq (rg (zm ?_)))))
  refine z ?_ (h:=fun Z=>cS Z (iW k (by omega)) (ac (ArgV.v vt) an) (ResV.agg [vI ((cN k).x),vI ((cN k).y)]) rv)
  refine zm ?_
  refine z ?_ (h:=fun Z=>az Z (by exact rfl))
  refine z ?_ (h:=fun Z=>az Z (by exact rfl))
  refine z ?_ (h:=fun Z=>aF (h:=5) (cap:=1) (s:=2) (cells:=[aI 0,aI 0]) Z dN rfl rfl (by decide))
  refine z ?_ (h:=fun _=>aw (cells:=[aI ((cN k).x),aI ((cN k).y)]) dg xt (by exact rfl) (by decide) (by exact ob1 rfl) (by exact Nat.le_of_ble_eq_true rfl) (by exact rfl))
  refine za (nl (sq (rg ?_)))
  refine z ?_ (h:=fun Z=>aa (xs:=[vI c.x,vI c.y].map A.val) Z dg rfl (by decide) rfl)
  refine z ?_ (h:=fun Z=>aa (xs:=[vI ((cN k).x),vI ((cN k).y)].map A.val) Z dg rfl (by decide) rfl)
  refine z ?_ (h:=fun Z=>ah Z (ou c (cN k) ) (ac (ArgV.va va) (ac (ArgV.va va) an)) rv)
  refine nl ?_
  refine wi (b:=(nbr c (cN k))) (fun c3=> ?_) (fun c3=> ?_)
  ·skip
   refine rg (zm ?_)
   refine z ?_ (h:=fun Z=>aa (xs:=[vI ((cN k).x),vI ((cN k).y)].map A.val) Z dg rfl (by decide) rfl)
   refine z ?_ (h:=fun Z=>aR (h:=22) (xs:=csl ([(cN k)]:List Cel)) Z dM dN (.cons va OpVs.nil) (by decide) (by decide) (by kernel_rfl) rfl)
   refine z ?_ (h:=fun Z=>aC_ (h2:=23) (L3:=((((List.range k).filter (fun i=>nbr c (cN i))).map cN)++[(cN k)])) Z dM dN (by exact rfl) rfl (by exact rfl) (by(simp at*;omega)))
   refine za (nl (rg (zm ?_)))
   refine z ?_ (h:=fun Z=>ab Z vt vc rA)
   refine za (nl ?_)
   exact ar ((k+1)) (by show _≤_;omega) (by show 64-(k+1)<64-k;omega) (wkf (bn [(7,23)]) (wS<|wE (e:=(vsl (by(exact congrArg List.length (by first |rfl |exact eN (p:=fun i=>nbr c (cN i)) (by assumption) |exact fH (p:=fun i=>nbr c (cN i)) (by assumption) |omega))) rfl))<|wE (e:=(aO (by rfl)))<|wX<|wO (e:=aG (fun h=>h) (congrArg csl (by exact eN (p:=fun i=>nbr c (cN i)) (by assumption))))<|wF<|wF<|wF<|wF<|wF<|wN))
  ·skip
   refine sk (rg (zm ?_))
   refine z ?_ (h:=fun Z=>ab Z vt vc rA)
   refine za (nl ?_)
   exact ar ((k+1)) (by show _≤_;omega) (by show 64-(k+1)<64-k;omega) (wkf id (wS<|wE (e:=(vsl (by(exact congrArg List.length (by first |rfl |exact eN (p:=fun i=>nbr c (cN i)) (by assumption) |exact fH (p:=fun i=>nbr c (cN i)) (by assumption) |omega))) rfl))<|wE (e:=(aO (by rfl)))<|wX<|wO (e:=aG (fun h=>h) (congrArg csl (by exact fH (p:=fun i=>nbr c (cN i)) (by assumption))))<|wF<|wF<|wF<|wF<|wF<|wN))
 ·skip
  have c2P:=of_decide_eq_false c2
  refine aJ (sq (rg (zm (za (nl (aq ?_))))))
  exact VRes.tmp _ _ _ (by exact rfl) (it (h:=7) (L:=(((List.range k).filter (fun i=>nbr c (cN i))).map cN)) (by kernel_rfl) (by(have e:k=64:=by omega);subst e;exact Ax c) (by rfl))
theorem bc (s:Nat) (c:Cel) (hs:s<18446744073709551616):Fn Tryz.prog 56 [.a (.val (.int .u64 ((s:Nat):Int))),.agg ([vI c.x,vI c.y].map A.val)] [.val (.bool (aP s c))]:=by
 refine aN (N:=15) Tryz.func56 rfl (by kernel_rfl) rfl (Nat.le_of_ble_eq_true rfl) [3,6,10] (dB rfl) (fun W=> ?_)
 show Wp _ _ _ [kU 0 ((s:Nat):Int),kV 1 (V.av [vI c.x,vI c.y]),kF 3,kF 6,kF 10]
 refine sq (rg ?_)
 refine z ?_ (h:=fun Z=>aM (h:=3) Z xt (by exact ob1 rfl))
 refine zk (nl (sq ?_))
 rcases Bool.eq_false_or_eq_true ((okc c.x c.y))with c1 |c1
 ·skip
  have c1Q:=bz.1 c1
  refine rg ?_
  refine z ?_ (h:=fun Z=>aa (xs:=[vI c.x,vI c.y].map A.val) Z dg rfl (by decide) rfl)
  refine z ?_ (h:=fun Z=>ah Z (dw c ) (ac (ArgV.va va) an) (aH (congrArg Value.bool c1)))
  refine zm ?_
  refine zg ?_ (h:=fun Z=>ae rfl rfl (mt Z))
  refine zg ?_ (h:=fun Z=>ae rfl rfl (aa (xs:=[vI c.x,vI c.y].map A.val) Z dg rfl (by decide) rfl))
  refine zg ?_ (h:=fun Z=>ae rfl rfl (ah Z (fS c (by omega)) (ac (ArgV.va va) an) rv))
  refine zg ?_ (h:=fun Z=>ae rfl rfl (ab Z vt vt (oj (c:=(((s>>>(idx c)):Nat):Int)) (by omega) (zf (m:=s) (n:=(idx c)) rfl rfl (by(first |omega |assumption |exact cn (by assumption))) rfl))))
  refine zg ?_ (h:=fun Z=>ae rfl rfl (ab Z vt vc (iK (c:=((((s>>>(idx c))&&&1):Nat):Int)) (andU (m:=(s>>>(idx c))) (n:=1) rfl rfl (by exact Nat.lt_of_le_of_lt (nk _ _) (by first |omega |assumption |(first |omega |assumption |exact cn (by assumption)))) (by omega)))))
  refine zg ?_ (h:=fun Z=>ae rfl rfl (ab Z vt vc (cW (c:=(s.testBit (idx c))) (oE _ _))))
  refine z ?_ (h:=fun Z=>al Z vt xt)
  refine za (nl (aq ?_))
  exact VRes.tmp _ _ _ (by exact rfl) (cc (congrArg Value.bool (by(simp_all [aP];done))))
 ·skip
  have c1Q:=iz.1 c1
  refine rg ?_
  refine z ?_ (h:=fun Z=>aa (xs:=[vI c.x,vI c.y].map A.val) Z dg rfl (by decide) rfl)
  refine z ?_ (h:=fun Z=>ah Z (dw c ) (ac (ArgV.va va) an) (aH (congrArg Value.bool c1)))
  refine zm (zo (zo (zo (zo (zo (zo ?_))))))
  refine z ?_ (h:=fun Z=>ao Z vt xc)
  refine za (nl (aq ?_))
  exact VRes.tmp _ _ _ (by exact rfl) (cc (congrArg Value.bool (by(simp_all [aP];done))))
theorem fT (s:Nat) (c:Cel) (hs:s<18446744073709551616) (hc:okc c.x c.y=true):Fn Tryz.prog 105 [.a (.val (.int .u64 ((s:Nat):Int))),.agg ([vI c.x,vI c.y].map A.val)] [.val (.int .u64 (((pu s c):Nat):Int))]:=by
 refine aN (N:=10) Tryz.func105 rfl (by kernel_rfl) rfl (Nat.le_of_ble_eq_true rfl) [3,7] (dB rfl) (fun W=> ?_)
 show Wp _ _ _ [kU 0 ((s:Nat):Int),kV 1 (V.av [vI c.x,vI c.y]),kF 3,kF 7]
 refine sq (rg ?_)
 refine z ?_ (h:=fun Z=>aM (h:=3) Z xt (by exact ob1 rfl))
 refine zk (nl (sq (rg (zm ?_))))
 refine z ?_ (h:=fun Z=>aa (xs:=[vI c.x,vI c.y].map A.val) Z dg rfl (by decide) rfl)
 refine z ?_ (h:=fun Z=>ah Z (fS c (by omega)) (ac (ArgV.va va) an) rv)
 refine z ?_ (h:=fun Z=>ab Z vc vt (gX (c:=(((2^ (idx c)):Nat):Int)) (by omega) (shl1U (n:=(idx c)) rfl (by(first |omega |assumption |exact cn (by assumption) |exact pr (cn (by assumption)) |exact oC (by assumption) (by assumption) |exact Da (by assumption) _)))))
 refine z ?_ (h:=fun Z=>ab Z vt vt (qk (c:=(((s|||(2^ (idx c))):Nat):Int)) (orU (m:=s) (n:=(2^ (idx c))) rfl rfl (by omega) (by(first |omega |assumption |exact cn (by assumption) |exact pr (cn (by assumption)) |exact oC (by assumption) (by assumption) |exact Da (by assumption) _)))))
 refine za (nl (aq ?_))
 exact VRes.tmp _ _ _ (by exact rfl) (cc (congrArg (Value.int .u64) (by rfl)))
theorem kY (s:Nat) (hs:s<18446744073709551616):Fn Tryz.prog 55 [.a (.val (.int .u64 ((s:Nat):Int)))] [.row 67 2 (aj s).length (csl (aj s))]:=by
 refine aN (N:=21) Tryz.func55 rfl (by kernel_rfl) rfl (Nat.le_of_ble_eq_true rfl) [5,16,17,18] (dB rfl) (fun W=> ?_)
 show Wp _ _ _ [kU 0 ((s:Nat):Int),kF 5,kF 16,kF 17,kF 18]
 refine sq (rg (zk (nl (sq (rg ?_)))))
 refine z ?_ (h:=fun Z=>b0C (h:=5) Z dM dN)
 refine za (nl (sq (sq (rg ?_))))
 refine z ?_ (h:=fun Z=>mc Z)
 refine nl (bkk ?_)
 refine bf (fun(k:Nat)=>k≤64) (fun(k:Nat)=>[kU 0 ((s:Nat):Int),kS 3 5 0 ((((List.range k).filter s.testBit).map cN).length),kI 6 ((k:Nat):Int),kO 5 67 2 true (pl (csl (((List.range k).filter s.testBit).map cN))),kF 16,kF 17,kF 18]) (fun(k:Nat)=>64-k) ((0:Nat)) (by exact(by omega:0≤64)) (wkf id (wS<|wE (e:=(vsl (by rfl) rfl))<|wE (e:=(aO (by rfl)))<|wO (e:=aG (fun h=>h) (congrArg csl (by rfl)))<|wF<|wF<|wF<|wN)) ?_
 rintro k inv1
 replace inv1:k≤64:=inv1
 have inv:=inv1
 have hfl:=ml s.testBit k
 refine sq (rg ?_)
 refine z ?_ (h:=fun Z=>ab Z vt vc (bP rfl))
 refine nl (sq ?_)
 refine wi (fun c2=> ?_) (fun c2=> ?_)
 ·skip
  have c2P:=of_decide_eq_true c2
  refine sk (sq (bkk (sq (rg (zm (za (nl (sq (rg (zm (zm ?_)))))))))))
  refine z ?_ (h:=fun Z=>ab Z vt vt (oj (c:=(((s>>>k):Nat):Int)) (by omega) (zf (m:=s) (n:=k) rfl rfl (by omega) rfl)))
  refine z ?_ (h:=fun Z=>ab Z vt vc (iK (c:=((((s>>>k)&&&1):Nat):Int)) (andU (m:=(s>>>k)) (n:=1) rfl rfl (by exact Nat.lt_of_le_of_lt (nk _ _) (by first |omega |assumption |(first |omega |assumption))) (by omega))))
  refine z ?_ (h:=fun Z=>ab Z vt vc (cW (c:=(s.testBit k)) (oE _ _)))
  refine nl ?_
  refine wi (b:=(s.testBit k)) (fun c3=> ?_) (fun c3=> ?_)
  ·skip
   refine rg (zm (zm ?_))
   refine z ?_ (h:=fun Z=>ah Z (kX k (by omega)) (ac (ArgV.v vt) an) (ResV.agg [vI ((cN k).x),vI ((cN k).y)]))
   refine z ?_ (h:=fun Z=>aR (h:=17) (xs:=csl ([(cN k)]:List Cel)) Z dM dN (.cons va OpVs.nil) (by decide) (by decide) (by kernel_rfl) rfl)
   refine z ?_ (h:=fun Z=>aC_ (h2:=18) (L3:=((((List.range k).filter s.testBit).map cN)++[(cN k)])) Z dM dN (by exact rfl) rfl (by exact rfl) (by(simp at*;omega)))
   refine za (nl (rg ?_))
   refine z ?_ (h:=fun Z=>ab Z vt vc (rA (by omega) (by omega)))
   refine zm (nl ?_)
   exact ar ((k+1)) (by show _≤_;omega) (by show 64-(k+1)<64-k;omega) (wkf (bn [(5,18)]) (wS<|wE (e:=(vsl (by(exact congrArg List.length (by first |rfl |exact eN (by assumption) |exact fH (by assumption) |omega))) rfl))<|wE (e:=(aO (by rfl)))<|wO (e:=aG (fun h=>h) (congrArg csl (by exact eN (by assumption))))<|wF<|wF<|wF<|wN))
  ·skip
   refine sk (rg ?_)
   refine z ?_ (h:=fun Z=>ab Z vt vc (rA (by omega) (by omega)))
   refine zm (nl ?_)
   exact ar ((k+1)) (by show _≤_;omega) (by show 64-(k+1)<64-k;omega) (wkf id (wS<|wE (e:=(vsl (by(exact congrArg List.length (by first |rfl |exact eN (by assumption) |exact fH (by assumption) |omega))) rfl))<|wE (e:=(aO (by rfl)))<|wO (e:=aG (fun h=>h) (congrArg csl (by exact fH (by assumption))))<|wF<|wF<|wF<|wN))
 ·skip
  have c2P:=of_decide_eq_false c2
  refine aJ (sq (rg (zm (za (nl (aq ?_))))))
  exact VRes.tmp _ _ _ (by exact rfl) (it (h:=5) (L:=(((List.range k).filter s.testBit).map cN)) (by kernel_rfl) (by(have e:k=64:=by omega);subst e;rfl) (by rfl))
theorem cA (l:List Int) (ho:aU l=true):Fn Tryz.prog 54 [.agg [(.slv l.length 1 (isl l):A)]] [.val (.int .u64 (((ag l):Nat):Int))]:=by
 obtain⟨h8,hr⟩:=fD ho
 refine aN (N:=23) Tryz.func54 rfl (by kernel_rfl) rfl (Nat.le_of_ble_eq_true rfl) [1,8] (dB rfl) (fun W=> ?_)
 show Wp _ _ _ [kV 0 (V.b (.agg [(.slv l.length 1 (isl l):A)])),kF 1,kF 8]
 refine sq (rg ?_)
 refine z ?_ (h:=fun Z=>aM (h:=1) Z xt (by exact ob1 rfl))
 refine zk (nl (sq (rg (zk (nl (sq (sq (rg ?_))))))))
 refine z ?_ (h:=fun Z=>ak (off':=0) Z eC rfl)
 refine z ?_ (h:=fun Z=>ai (x:= .slv l.length 1 (isl l)) Z fK (by exact rfl))
 refine z ?_ (h:=fun Z=>lnV Z fL)
 refine z ?_ (h:=fun Z=>mc Z)
 refine nl (bkk ?_)
 refine bf (fun(k:Nat)=>k≤l.length) (fun(k:Nat)=>[kU 3 (((rs l k):Nat):Int),kV 7 (V.b (.a (.slv l.length 1 (isl l)))),kI 8 ((l.length:Nat):Int),kI 9 ((k:Nat):Int),kF 1,kF 8]) (fun(k:Nat)=>l.length-k) ((0:Nat)) (by exact(Nat.zero_le _:0≤_)) (wkf id (wE (e:=(aO (by rfl)))<|wS<|wS<|wE (e:=(aO (by rfl)))<|wF<|wF<|wN)) ?_
 rintro k inv1
 replace inv1:k≤l.length:=inv1
 have inv:=inv1
 have hrs:=LS ho inv
 refine sq (rg ?_)
 refine z ?_ (h:=fun Z=>ab Z vt vt (bP rfl))
 refine nl (sq ?_)
 refine wi (fun c2=> ?_) (fun c2=> ?_)
 ·skip
  have c2P:=of_decide_eq_true c2
  refine sk (sq (bkk (sq (rg (zm ?_)))))
  refine z ?_ (h:=fun Z=>ixv Z fL vq vt (hlt:=(by omega)))
  refine z ?_ (h:=fun Z=>uI Z eG (by omega))
  refine za (za (nl (rg (zm (zm ?_)))))
  refine z ?_ (h:=fun Z=>rE Z vt (CC (c:=(gI l k)) HX Fo (w_u64 (by(have:=hr k (by omega);omega)) (by(have:=hr k (by omega);omega)))))
  refine zm ?_
  refine z ?_ (h:=fun Z=>ab Z vc vt (rM (by omega) (by omega)))
  refine z ?_ (h:=fun Z=>ab Z vt vt (gX (c:=(((((gI l k).toNat)<<<(8*k)):Nat):Int)) (by omega) (shlU (m:=((gI l k).toNat)) (n:=(8*k)) (Int.toNat_of_nonneg (by(have:=hr k (by omega);omega))).symm (by rfl) (by omega) (by(first |omega |assumption |(have:=hr k (by omega);exact LU (by omega) (by omega)))))))
  refine z ?_ (h:=fun Z=>ab Z vt vt (qk (c:=((((rs l k)|||(((gI l k).toNat)<<<(8*k))):Nat):Int)) (orU (m:=(rs l k)) (n:=(((gI l k).toNat)<<<(8*k))) rfl rfl (by omega) (by(first |omega |assumption |(have:=hr k (by omega);exact LU (by omega) (by omega)))))))
  refine za (nl (rg ?_))
  refine z ?_ (h:=fun Z=>ab Z vt vc (rA (by omega) (by omega)))
  refine zm (nl ?_)
  exact ar ((k+1)) (by show _≤_;omega) (by show l.length-(k+1)<l.length-k;omega) (wkf id (wE (e:=(aO (by rfl)))<|wS<|wS<|wE (e:=(aO (by rfl)))<|wF<|wF<|wN))
 ·skip
  have c2P:=of_decide_eq_false c2
  refine aJ (sq (rg (zm (za (nl (aq ?_))))))
  exact VRes.tmp _ _ _ (by exact rfl) (cc (congrArg (Value.int .u64) (by(have e:k=l.length:=by omega);subst e;rfl)))
theorem df (l:List Int) (hl:l.length≤4194304):Fn Tryz.prog 53 [.agg [(.slv l.length 1 (isl l):A)]] [.val (.bool (aU l))]:=by
 refine aN (N:=12) Tryz.func53 rfl (by kernel_rfl) rfl (Nat.le_of_ble_eq_true rfl) [1,5,10] (dB rfl) (fun W=> ?_)
 show Wp _ _ _ [kV 0 (V.b (.agg [(.slv l.length 1 (isl l):A)])),kF 1,kF 5,kF 10]
 refine sq (rg ?_)
 refine z ?_ (h:=fun Z=>aM (h:=1) Z xt (by exact ob1 rfl))
 refine zk (nl (sq ?_))
 rcases Bool.eq_false_or_eq_true (decide (((l.length:Nat):Int)≤8))with c1 |c1
 ·skip
  have c1P:=of_decide_eq_true c1
  refine rg ?_
  refine z ?_ (h:=fun Z=>ak (off':=0) Z eC rfl)
  refine z ?_ (h:=fun Z=>ai (x:= .slv l.length 1 (isl l)) Z fK (by exact rfl))
  refine z ?_ (h:=fun Z=>lnV Z fL)
  refine z ?_ (h:=fun Z=>ab Z vt vc (pM (c:=true) c1))
  refine zm ?_
  refine zg ?_ (h:=fun Z=>ae rfl rfl (ak (off':=0) Z eC rfl))
  refine zg ?_ (h:=fun Z=>ae rfl rfl (ai (x:= .slv l.length 1 (isl l)) Z fK (by exact rfl)))
  refine zg ?_ (h:=fun Z=>ae rfl rfl (ah Z (qS l 0 255 (by omega)) (ac (ArgV.slv _ _ _ _) (ac (ArgV.v vc) (ac (ArgV.v vc) an))) rv))
  refine z ?_ (h:=fun Z=>al Z vt xt)
  refine za (nl (aq ?_))
  exact VRes.tmp _ _ _ (by exact rfl) (cc (congrArg Value.bool (by(unfold aU;simp_all;(try intros);omega))))
 ·skip
  have c1P:=of_decide_eq_false c1
  refine rg ?_
  refine z ?_ (h:=fun Z=>ak (off':=0) Z eC rfl)
  refine z ?_ (h:=fun Z=>ai (x:= .slv l.length 1 (isl l)) Z fK (by exact rfl))
  refine z ?_ (h:=fun Z=>lnV Z fL)
  refine z ?_ (h:=fun Z=>ab Z vt vc (pM (c:=false) c1))
  refine zm (zo (zo (zo ?_)))
  refine z ?_ (h:=fun Z=>ao Z vt xc)
  refine za (nl (aq ?_))
  exact VRes.tmp _ _ _ (by exact rfl) (cc (congrArg Value.bool (by(unfold aU;simp_all;(try intros);omega))))
theorem cF (l:List Int) (hl:l.length≤4194304):Fn Tryz.prog 46 [.agg [(.slv l.length 1 (isl l):A)]] [.val (.bool (aU l))]:=by
 refine aN (N:=22) Tryz.func46 rfl (by kernel_rfl) rfl (Nat.le_of_ble_eq_true rfl) [1,7,16,20] (dB rfl) (fun W=> ?_)
 show Wp _ _ _ [kV 0 (V.b (.agg [(.slv l.length 1 (isl l):A)])),kF 1,kF 7,kF 16,kF 20]
 refine sq (rg ?_)
 refine z ?_ (h:=fun Z=>aM (h:=1) Z xt (by exact ob1 rfl))
 refine zk (nl (sq (sq (rg (zk (nl (bkk ?_)))))))
 refine bf (fun(k:Nat)=>k≤l.length∧fE (l.take k) 0 255=true) (fun(k:Nat)=>[kP 1 1 0,kI 3 ((k:Nat):Int),kO 1 26 1 true [(.slv l.length 1 (isl l):A)],kF 7,kF 16,kF 20]) (fun(k:Nat)=>l.length-k) ((0:Nat)) (by exact⟨Nat.zero_le _,rfl⟩) (wkf id (wS<|wE (e:=(aO (by rfl)))<|wX<|wF<|wF<|wF<|wN)) ?_
 rintro k inv1
 replace inv1:k≤l.length∧fE (l.take k) 0 255=true:=inv1
 obtain⟨inv1_0,inv1_1⟩:=inv1
 refine sq (sq (rg (zm ?_)))
 refine z ?_ (h:=fun Z=>ak (off':=0) Z eC rfl)
 refine z ?_ (h:=fun Z=>ai (x:= .slv l.length 1 (isl l)) Z fK (by exact rfl))
 refine z ?_ (h:=fun Z=>lnV Z fL)
 refine z ?_ (h:=fun Z=>ab Z vt vt (bP rfl))
 refine nl ?_
 refine wi (fun c2=> ?_) (fun c2=> ?_)
 ·skip
  have c2P:=of_decide_eq_true c2
  refine sk (sq (bkk (sq (rg ?_))))
  refine z ?_ (h:=fun Z=>ak (off':=0) Z eC rfl)
  refine z ?_ (h:=fun Z=>ai (x:= .slv l.length 1 (isl l)) Z fK (by exact rfl))
  refine zm ?_
  refine z ?_ (h:=fun Z=>ixv Z fL vq vt)
  refine z ?_ (h:=fun Z=>uI Z eG)
  refine z ?_ (h:=fun Z=>ah Z (cP (gI l k) 0 255 ) (ac (ArgV.v vt) (ac (ArgV.v vc) (ac (ArgV.v vc) an))) rv)
  refine z ?_ (h:=fun Z=>aK Z vt (bE rfl))
  refine nl ?_
  refine wi (b:=(!(inB (gI l k) 0 255))) (fun c3=> ?_) (fun c3=> ?_)
  ·skip
   have c4:(inB (gI l k) 0 255)=false:=by first |(rw[←Bool.not_eq_true'];exact c3) |simpa using c3
   have c4Q:=oL.1 c4
   refine sq (rg (zk (nl (aq ?_))))
   exact VRes.tmp _ _ _ (by exact rfl) (cc (congrArg Value.bool (by exact(CE (k:=k) (by omega) (by assumption)).symm)))
  ·skip
   have c5:(inB (gI l k) 0 255)=true:=by first |(rw[←Bool.not_eq_false'];exact c3) |simpa using c3
   have c5Q:=bw.1 c5
   refine sk (rg (zm ?_))
   refine z ?_ (h:=fun Z=>ab Z vt vc rA)
   refine za (nl ?_)
   exact ar ((k+1)) (by exact⟨by omega,Bu (by omega) (by assumption) (by assumption)⟩) (by show l.length-(k+1)<l.length-k;omega) (wkf id (wS<|wE (e:=(aO (by rfl)))<|wX<|wF<|wF<|wF<|wN))
 ·skip
  have c2P:=of_decide_eq_false c2
  refine aJ (sq (rg ?_))
  refine z ?_ (h:=fun Z=>ak (off':=0) Z eC rfl)
  refine z ?_ (h:=fun Z=>ai (x:= .slv l.length 1 (isl l)) Z fK (by exact rfl))
  refine z ?_ (h:=fun Z=>lnV Z fL)
  refine z ?_ (h:=fun Z=>ab Z vt vc (pM rfl))
  refine za (nl (aq ?_))
  exact VRes.tmp _ _ _ (by exact rfl) (cc (congrArg Value.bool (by rw[Bc (EA (by omega) (by assumption))];simp;omega)))
theorem bZ (l:List Int) (c:Cel) (ho:aU l=true) (hc:okc c.x c.y=true):Fn Tryz.prog 80 [.agg [(.slv l.length 1 (isl l):A)],.agg ([vI c.x,vI c.y].map A.val)] [.val (.bool (dm l c))]:=by
 obtain⟨h8,hr⟩:=fD ho
 have hq:=bz.1 hc
 refine aN (N:=24) Tryz.func80 rfl (by kernel_rfl) rfl (Nat.le_of_ble_eq_true rfl) [2,3,9] (dB rfl) (fun W=> ?_)
 show Wp _ _ _ [kV 0 (V.b (.agg [(.slv l.length 1 (isl l):A)])),kV 1 (V.av [vI c.x,vI c.y]),kF 2,kF 3,kF 9]
 refine sq (rg ?_)
 refine z ?_ (h:=fun Z=>aM (h:=2) Z xt (by exact ob1 rfl))
 refine z ?_ (h:=fun Z=>aM (h:=3) Z xt (by exact ob1 rfl))
 refine zk (nl (sq ?_))
 rcases Bool.eq_false_or_eq_true (decide (c.y<((l.length:Nat):Int)))with c1 |c1
 ·skip
  have c1P:=of_decide_eq_true c1
  refine cg ?_
  refine zd ?_ (h:=fun Z=>ak (off':=1) Z gf rfl)
  refine zd ?_ (h:=fun Z=>ai (x:= .val (.int .i64 c.y)) Z eG (by exact rfl))
  refine zd ?_ (h:=fun Z=>ak (off':=0) Z eC rfl)
  refine zd ?_ (h:=fun Z=>ai (x:= .slv l.length 1 (isl l)) Z fK (by exact rfl))
  refine zd ?_ (h:=fun Z=>lnV Z fL)
  refine zd ?_ (h:=fun Z=>ab Z vt vt (bP (c:=true) c1))
  refine zdm ?_
  refine zdg ?_ (h:=fun Z=>ae rfl rfl (ak (off':=0) Z eC rfl))
  refine zdg ?_ (h:=fun Z=>ae rfl rfl (ai (x:= .slv l.length 1 (isl l)) Z fK (by exact rfl)))
  refine zdg ?_ (h:=fun Z=>ae rfl rfl (ak (off':=1) Z gf rfl))
  refine zdg ?_ (h:=fun Z=>ae rfl rfl (ai (x:= .val (.int .i64 c.y)) Z eG (by exact rfl)))
  refine zdg ?_ (h:=fun Z=>ae rfl rfl (ixv (k:=c.y.toNat) Z fL vq vt (Int.toNat_of_nonneg (by omega)).symm (by omega)))
  refine zdg ?_ (h:=fun Z=>ae rfl rfl (uI Z eG (by omega)))
  refine zdg ?_ (h:=fun Z=>ae rfl rfl (ak (off':=0) Z jW rfl))
  refine zdg ?_ (h:=fun Z=>ae rfl rfl (ai (x:= .val (.int .i64 c.x)) Z eG (by exact rfl)))
  refine zdg ?_ (h:=fun Z=>ae rfl rfl (ab Z vt vt (oj (c:=(((((gI l c.y.toNat).toNat)>>>c.x.toNat):Nat):Int)) (by omega) (zf (m:=((gI l c.y.toNat).toNat)) (n:=c.x.toNat) (Int.toNat_of_nonneg (by(have:=hr c.y.toNat (by omega);omega))).symm (Int.toNat_of_nonneg (by omega)).symm (by omega) rfl))))
  refine zdg ?_ (h:=fun Z=>ae rfl rfl (ab Z vt vc (iK (c:=((((((gI l c.y.toNat).toNat)>>>c.x.toNat)&&&1):Nat):Int)) (tF (m:=(((gI l c.y.toNat).toNat)>>>c.x.toNat)) (n:=1) rfl rfl (by exact Nat.lt_of_le_of_lt (nk _ _) (by first |omega |assumption |(first |omega |(have:=hr c.y.toNat (by omega);omega)))) (by omega)))))
  refine zdg ?_ (h:=fun Z=>ae rfl rfl (ab Z vt vc (cW (c:=(((gI l c.y.toNat).toNat).testBit c.x.toNat)) (oE _ _))))
  refine zd ?_ (h:=fun Z=>al Z vt xt)
  refine zd ?_ (h:=fun Z=>gt Z)
  refine bJ (aq ?_)
  exact VRes.tmp _ _ _ (by exact rfl) (cc (congrArg Value.bool (by(simp_all [dm];done))))
 ·skip
  have c1P:=of_decide_eq_false c1
  refine cg ?_
  refine zd ?_ (h:=fun Z=>ak (off':=1) Z gf rfl)
  refine zd ?_ (h:=fun Z=>ai (x:= .val (.int .i64 c.y)) Z eG (by exact rfl))
  refine zd ?_ (h:=fun Z=>ak (off':=0) Z eC rfl)
  refine zd ?_ (h:=fun Z=>ai (x:= .slv l.length 1 (isl l)) Z fK (by exact rfl))
  refine zd ?_ (h:=fun Z=>lnV Z fL)
  refine zd ?_ (h:=fun Z=>ab Z vt vt (bP (c:=false) c1))
  refine zdm ?_
  refine zdg ?_ (h:=fun Z=>am rfl rfl (by decide) rfl Z)
  refine zdg ?_ (h:=fun Z=>am rfl rfl (by decide) rfl Z)
  refine zdg ?_ (h:=fun Z=>am rfl rfl (by decide) rfl Z)
  refine zdg ?_ (h:=fun Z=>am rfl rfl (by decide) rfl Z)
  refine zdg ?_ (h:=fun Z=>am rfl rfl (by decide) rfl Z)
  refine zdg ?_ (h:=fun Z=>am rfl rfl (by decide) rfl Z)
  refine zdg ?_ (h:=fun Z=>am rfl rfl (by decide) rfl Z)
  refine zdg ?_ (h:=fun Z=>am rfl rfl (by decide) rfl Z)
  refine zdg ?_ (h:=fun Z=>am rfl rfl (by decide) rfl Z)
  refine zdg ?_ (h:=fun Z=>am rfl rfl (by decide) rfl Z)
  refine zdg ?_ (h:=fun Z=>am rfl rfl (by decide) rfl Z)
  refine zd ?_ (h:=fun Z=>ao Z vt xc)
  refine zd ?_ (h:=fun Z=>gt Z)
  refine bJ (aq ?_)
  exact VRes.tmp _ _ _ (by exact rfl) (cc (congrArg Value.bool (by(unfold dm;simp_all;(try intros);omega))))
theorem cB (l:List Int) (c:Cel) (hl:l.length≤4194304):Fn Tryz.prog 44 [.agg [(.slv l.length 1 (isl l):A)],.agg ([vI c.x,vI c.y].map A.val)] [.val (.bool (eJ l c))]:=by
 refine aN (N:=16) Tryz.func44 rfl (by kernel_rfl) rfl (Nat.le_of_ble_eq_true rfl) [2,3,6,9,14] (dB rfl) (fun W=> ?_)
 show Wp _ _ _ [kV 0 (V.b (.agg [(.slv l.length 1 (isl l):A)])),kV 1 (V.av [vI c.x,vI c.y]),kF 2,kF 3,kF 6,kF 9,kF 14]
 refine sq (rg ?_)
 refine z ?_ (h:=fun Z=>aM (h:=2) Z xt (by exact ob1 rfl))
 refine z ?_ (h:=fun Z=>aM (h:=3) Z xt (by exact ob1 rfl))
 refine zk (nl (sq ?_))
 rcases Bool.eq_false_or_eq_true ((aU l))with c1 |c1
 ·skip
  rcases Bool.eq_false_or_eq_true ((okc c.x c.y))with c2 |c2
  ·skip
   have c2Q:=bz.1 c2
   refine rg ?_
   refine z ?_ (h:=fun Z=>aa (xs:=[(.slv l.length 1 (isl l):A)]) Z jk rfl (by decide) rfl)
   refine z ?_ (h:=fun Z=>ah Z (cF l (by omega)) (ac (ArgV.regv _ _ 1 _) an) (aH (congrArg Value.bool c1)))
   refine zm ?_
   refine zg ?_ (h:=fun Z=>ae rfl rfl (aa (xs:=[vI c.x,vI c.y].map A.val) Z dg rfl (by decide) rfl))
   refine zg ?_ (h:=fun Z=>ae rfl rfl (ah Z (bW c ) (ac (ArgV.va va) an) (aH (congrArg Value.bool c2))))
   refine z ?_ (h:=fun Z=>al Z vt xt)
   refine zm ?_
   refine zg ?_ (h:=fun Z=>ae rfl rfl (aa (xs:=[(.slv l.length 1 (isl l):A)]) Z jk rfl (by decide) rfl))
   refine zg ?_ (h:=fun Z=>ae rfl rfl (aa (xs:=[vI c.x,vI c.y].map A.val) Z dg rfl (by decide) rfl))
   refine zg ?_ (h:=fun Z=>ae rfl rfl (ah Z (bZ l c (by omega) (by omega)) (ac (ArgV.regv _ _ 1 _) (ac (ArgV.va va) an)) rv))
   refine z ?_ (h:=fun Z=>al Z vt xt)
   refine za (nl (aq ?_))
   exact VRes.tmp _ _ _ (by exact rfl) (cc (congrArg Value.bool (by exact EY (by assumption) (by assumption))))
  ·skip
   have c2Q:=iz.1 c2
   refine rg ?_
   refine z ?_ (h:=fun Z=>aa (xs:=[(.slv l.length 1 (isl l):A)]) Z jk rfl (by decide) rfl)
   refine z ?_ (h:=fun Z=>ah Z (cF l (by omega)) (ac (ArgV.regv _ _ 1 _) an) (aH (congrArg Value.bool c1)))
   refine zm ?_
   refine zg ?_ (h:=fun Z=>ae rfl rfl (aa (xs:=[vI c.x,vI c.y].map A.val) Z dg rfl (by decide) rfl))
   refine zg ?_ (h:=fun Z=>ae rfl rfl (ah Z (bW c ) (ac (ArgV.va va) an) (aH (congrArg Value.bool c2))))
   refine z ?_ (h:=fun Z=>al Z vt xt)
   refine zm (zo (zo (zo ?_)))
   refine z ?_ (h:=fun Z=>ao Z vt xc)
   refine za (nl (aq ?_))
   exact VRes.tmp _ _ _ (by exact rfl) (cc (congrArg Value.bool (by(simp_all [eJ];done))))
 ·skip
  refine rg ?_
  refine z ?_ (h:=fun Z=>aa (xs:=[(.slv l.length 1 (isl l):A)]) Z jk rfl (by decide) rfl)
  refine z ?_ (h:=fun Z=>ah Z (cF l (by omega)) (ac (ArgV.regv _ _ 1 _) an) (aH (congrArg Value.bool c1)))
  refine zm (zo (zo ?_))
  refine z ?_ (h:=fun Z=>ao Z vt xc)
  refine zm (zo (zo (zo ?_)))
  refine z ?_ (h:=fun Z=>ao Z vt xc)
  refine za (nl (aq ?_))
  exact VRes.tmp _ _ _ (by exact rfl) (cc (congrArg Value.bool (by(simp_all [eJ];done))))
theorem kg (l:List Int) (hl:l.length≤4194304):Fn Tryz.prog 47 [.agg [(.slv l.length 1 (isl l):A)]] [.row 67 2 (cellsOf l).length (csl (cellsOf l))]:=by
 refine aN (N:=29) Tryz.func47 rfl (by kernel_rfl) rfl (Nat.le_of_ble_eq_true rfl) [1,5,7,12,18,23,26,27] (dB rfl) (fun W=> ?_)
 show Wp _ _ _ [kV 0 (V.b (.agg [(.slv l.length 1 (isl l):A)])),kF 1,kF 5,kF 7,kF 12,kF 18,kF 23,kF 26,kF 27]
 refine sq (rg ?_)
 refine z ?_ (h:=fun Z=>aM (h:=1) Z xt (by exact ob1 rfl))
 refine zk (nl (sq (rg ?_)))
 refine z ?_ (h:=fun Z=>b0C (h:=7) Z dM dN)
 refine za (nl (sq (sq (rg (zk (nl (bkk ?_)))))))
 refine bf (fun(k:Nat)=>k≤64∧(k=0∨aU l=true)) (fun(k:Nat)=>[kP 1 1 0,kS 3 7 0 ((((List.range k).filter (fun i=>dm l (cN i))).map cN).length),kI 4 ((k:Nat):Int),kO 1 26 1 true [(.slv l.length 1 (isl l):A)],kO 7 67 2 true (pl (csl (((List.range k).filter (fun i=>dm l (cN i))).map cN))),kF 5,kF 12,kF 18,kF 23,kF 26,kF 27]) (fun(k:Nat)=>64-k) ((0:Nat)) (by exact⟨by omega,.inl rfl⟩) (wkf id (wS<|wE (e:=(vsl (by rfl) rfl))<|wE (e:=(aO (by rfl)))<|wX<|wO (e:=aG (fun h=>h) (congrArg csl (by rfl)))<|wF<|wF<|wF<|wF<|wF<|wF<|wN)) ?_
 rintro k inv1
 replace inv1:k≤64∧(k=0∨aU l=true):=inv1
 obtain⟨inv1_0,inv1_1⟩:=inv1
 have hfl:=ml (fun i=>dm l (cN i)) k
 refine sq (sq ?_)
 rcases Bool.eq_false_or_eq_true (decide (((k:Nat):Int)<64))with c2 |c2
 ·skip
  have c2P:=of_decide_eq_true c2
  refine rg (zm ?_)
  refine z ?_ (h:=fun Z=>ab Z vt vc (bP (c:=true) c2))
  refine zm ?_
  refine zg ?_ (h:=fun Z=>ae rfl rfl (aa (xs:=[(.slv l.length 1 (isl l):A)]) Z jk rfl (by decide) rfl))
  refine zg ?_ (h:=fun Z=>ae rfl rfl (ah Z (cF l (by omega)) (ac (ArgV.regv _ _ 1 _) an) rv))
  refine z ?_ (h:=fun Z=>al Z vt xt)
  refine nl ?_
  refine wi (b:=(aU l)) (fun c3=> ?_) (fun c3=> ?_)
  ·skip
   refine sk (sq (bkk (sq (rg (zm ?_)))))
   refine z ?_ (h:=fun Z=>cS Z (iW k (by omega)) (ac (ArgV.v vt) an) (ResV.agg [vI ((cN k).x),vI ((cN k).y)]) rv)
   refine zm ?_
   refine z ?_ (h:=fun Z=>az Z (by exact rfl))
   refine z ?_ (h:=fun Z=>az Z (by exact rfl))
   refine z ?_ (h:=fun Z=>aF (h:=5) (cap:=1) (s:=2) (cells:=[aI 0,aI 0]) Z dN rfl rfl (by decide))
   refine z ?_ (h:=fun _=>aw (cells:=[aI ((cN k).x),aI ((cN k).y)]) dg xt (by exact rfl) (by decide) (by exact ob1 rfl) (by exact Nat.le_of_ble_eq_true rfl) (by exact rfl))
   refine za (nl (sq (rg ?_)))
   refine z ?_ (h:=fun Z=>aa (xs:=[(.slv l.length 1 (isl l):A)]) Z jk rfl (by decide) rfl)
   refine z ?_ (h:=fun Z=>aa (xs:=[vI ((cN k).x),vI ((cN k).y)].map A.val) Z dg rfl (by decide) rfl)
   refine z ?_ (h:=fun Z=>ah Z (bZ l (cN k) (by omega) (by exact fk (by omega))) (ac (ArgV.regv _ _ 1 _) (ac (ArgV.va va) an)) rv)
   refine nl ?_
   refine wi (b:=(dm l (cN k))) (fun c4=> ?_) (fun c4=> ?_)
   ·skip
    refine rg (zm ?_)
    refine z ?_ (h:=fun Z=>aa (xs:=[vI ((cN k).x),vI ((cN k).y)].map A.val) Z dg rfl (by decide) rfl)
    refine z ?_ (h:=fun Z=>aR (h:=26) (xs:=csl ([(cN k)]:List Cel)) Z dM dN (.cons va OpVs.nil) (by decide) (by decide) (by kernel_rfl) rfl)
    refine z ?_ (h:=fun Z=>aC_ (h2:=27) (L3:=((((List.range k).filter (fun i=>dm l (cN i))).map cN)++[(cN k)])) Z dM dN (by exact rfl) rfl (by exact rfl) (by(simp at*;omega)))
    refine za (nl (rg (zm ?_)))
    refine z ?_ (h:=fun Z=>ab Z vt vc (rA (by omega) (by omega)))
    refine za (nl ?_)
    exact ar ((k+1)) (by exact⟨by omega,.inr (by assumption)⟩) (by show 64-(k+1)<64-k;omega) (wkf (bn [(7,27)]) (wS<|wE (e:=(vsl (by(exact congrArg List.length (by first |rfl |exact eN (p:=fun i=>dm l (cN i)) (by assumption) |exact fH (p:=fun i=>dm l (cN i)) (by assumption) |omega))) rfl))<|wE (e:=(aO (by rfl)))<|wX<|wO (e:=aG (fun h=>h) (congrArg csl (by exact eN (p:=fun i=>dm l (cN i)) (by assumption))))<|wF<|wF<|wF<|wF<|wF<|wF<|wN))
   ·skip
    refine sk (rg (zm ?_))
    refine z ?_ (h:=fun Z=>ab Z vt vc (rA (by omega) (by omega)))
    refine za (nl ?_)
    exact ar ((k+1)) (by exact⟨by omega,.inr (by assumption)⟩) (by show 64-(k+1)<64-k;omega) (wkf id (wS<|wE (e:=(vsl (by(exact congrArg List.length (by first |rfl |exact eN (p:=fun i=>dm l (cN i)) (by assumption) |exact fH (p:=fun i=>dm l (cN i)) (by assumption) |omega))) rfl))<|wE (e:=(aO (by rfl)))<|wX<|wO (e:=aG (fun h=>h) (congrArg csl (by exact fH (p:=fun i=>dm l (cN i)) (by assumption))))<|wF<|wF<|wF<|wF<|wF<|wF<|wN))
  ·skip
   refine aJ (sq (rg (zm (za (nl (aq ?_))))))
   exact VRes.tmp _ _ _ (by exact rfl) (it (h:=7) (L:=(((List.range k).filter (fun i=>dm l (cN i))).map cN)) (by kernel_rfl) (by(have e:k=0:=by simp_all);subst e;unfold cellsOf;simp_all) (by rfl))
 ·skip
  have c2P:=of_decide_eq_false c2
  refine rg (zm ?_)
  refine z ?_ (h:=fun Z=>ab Z vt vc (bP (c:=false) c2))
  refine zm (zo (zo ?_))
  refine z ?_ (h:=fun Z=>ao Z vt xc)
  refine nl (wf (aJ (sq (rg (zm (za (nl (aq ?_))))))))
  exact VRes.tmp _ _ _ (by exact rfl) (it (h:=7) (L:=(((List.range k).filter (fun i=>dm l (cN i))).map cN)) (by kernel_rfl) (by(have e:k=64:=by omega);subst e;exact yj (by simp_all)) (by rfl))
theorem qn (l:List Int) (hl:l.length≤4194304):Fn Tryz.prog 28 [.agg [(.slv l.length 1 (isl l):A)]] [.val (.int .i64 (((cellsOf l).length:Nat):Int))]:=by
 refine aN (N:=6) Tryz.func28 rfl (by kernel_rfl) rfl (Nat.le_of_ble_eq_true rfl) [1,4,5] (dB rfl) (fun W=> ?_)
 show Wp _ _ _ [kV 0 (V.b (.agg [(.slv l.length 1 (isl l):A)])),kF 1,kF 4,kF 5]
 refine sq (rg ?_)
 refine z ?_ (h:=fun Z=>aM (h:=1) Z xt (by exact ob1 rfl))
 refine zk (nl (sq (rg ?_)))
 refine z ?_ (h:=fun Z=>aa (xs:=[(.slv l.length 1 (isl l):A)]) Z jk rfl (by decide) rfl)
 refine z ?_ (h:=fun Z=>ah Z (kg l (by omega)) (ac (ArgV.regv _ _ 1 _) an) (ResV.row _ _ _ _ 4))
 refine z ?_ (h:=fun Z=>lnS Z dM)
 refine za (nl (aq ?_))
 exact VRes.tmp _ _ _ (by exact rfl) (BRes.val _)
end Cl
end Go.Proofs.YtonlghbbdcddoaaGreat
