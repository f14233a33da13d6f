
import Derived.Test.YtonlghbbdcddoaaGreatBase
import Derived.Laws.CopyOwn
namespace Go.Proofs.YtonlghbbdcddoaaGreat
open Go.ChangeShapes Go.WideShapes Go.ChangeAt Go.RowKit
set_option maxRecDepth 20000
theorem zF (P:Program) (t e:TypeId) (S:Nat) (hu:P.underlying t=some (.slice e)) (hs:(P.info? e).map (·.size)=some S) (a:Option Addr) (n c lo:Nat) (l:Int) (hl:l=lo) (h:lo≤n):
    ∃ (D:Option Addr) (L C:Nat),((c≠lo→D=a.map (·.add (lo*S)))∧L=n-lo∧C=c-lo)∧∀ w:World,(Instr.slice t (.slice a n c) (some (.int .i64 l)) none none).run P w= .ok (.slice D L C) w:=by
  subst hl
  have he:P.elem t=e:=by unfold Program.elem;rw[hu]
  cases hq:P.info? e with
  | none=>simp [hq]at hs
  | some i=>
    have hi:i.size=S:=by simpa [hq] using hs
    refine⟨if c=lo then a else a.map (·.add (lo*S)),n-lo,c-lo,⟨fun hne=>by rw[if_neg hne],rfl,rfl⟩,fun w=> ?_⟩
    rw[run_slice_l (P:=P) w t a n c (by rw[he];exact hu) .i64 _ (by omega) (by omega)]
    simp [sizeOf,typeInfo,he,hq,hi,sliced]
theorem Gy (P:Program) (t e:TypeId) (S:Nat) (hu:P.underlying t=some (.slice e)) (hs:(P.info? e).map (·.size)=some S) (a:Option Addr) (n c hi:Nat) (l:Int) (hl:l=hi) (h:hi≤c):
    ∀ w:World,(Instr.slice t (.slice a n c) none (some (.int .i64 l)) none).run P w= .ok (.slice a hi c) w:=by
  subst hl
  have he:P.elem t=e:=by unfold Program.elem;rw[hu]
  cases hq:P.info? e with
  | none=>simp [hq]at hs
  | some i=>
    intro w
    rw[run_slice_h (P:=P) w t a n c (by rw[he];exact hu) .i64 _ (by omega) (by omega)]
    simp [sizeOf,typeInfo,he,hq,sliced]
    intro _;cases a<;>simp [Addr.add]
theorem qM {α:Type} (f:α→List Value) (s:Nat) (hf:∀ a,(f a).length=s) (l:List α) (k:Nat):(l.flatMap f).take (k*s)=(l.take k).flatMap f:=by
  induction l generalizing k with
  | nil=>simp
  | cons a l ih=>
    cases k with
    | zero=>simp
    | succ k=>
      rw[List.flatMap_cons,List.take_append,List.take_of_length_le (by rw[hf,Nat.succ_mul];omega),hf,Nat.succ_mul,Nat.add_sub_cancel,ih,List.take_succ_cons,List.flatMap_cons]
theorem qL {α:Type} (f:α→List Value) (s:Nat) (hf:∀ a,(f a).length=s) (l:List α) (k:Nat):(l.flatMap f).drop (k*s)=(l.drop k).flatMap f:=by
  induction l generalizing k with
  | nil=>simp
  | cons a l ih=>
    cases k with
    | zero=>simp
    | succ k=>
      rw[List.flatMap_cons,List.drop_append,List.drop_eq_nil_of_le (by rw[hf,Nat.succ_mul];omega),hf,Nat.succ_mul,Nat.add_sub_cancel,ih,List.drop_succ_cons,List.nil_append]
theorem uK (l:List Dom) (k:Nat):(dsl l).take (k*3)=dsl (l.take k):=qM Dom.cs 3 (fun _=>rfl) l k
theorem zP (l:List Dom) (k:Nat):(dsl l).drop (k*3)=dsl (l.drop k):=qL Dom.cs 3 (fun _=>rfl) l k
theorem zE (l:List Cel) (k:Nat):(csl l).take (k*2)=csl (l.take k):=qM Cel.cs 2 (fun _=>rfl) l k
theorem zC (l:List Cel) (k:Nat):(csl l).drop (k*2)=csl (l.drop k):=qL Cel.cs 2 (fun _=>rfl) l k
theorem oJ (l:List Dom):∀ v∈dsl l,v.oneCell'=true:=by
 intro v hv
 simp only[dsl,List.mem_flatMap]at hv
 obtain⟨d,_,hd⟩:=hv
 simp [Dom.cs]at hd
 rcases hd with rfl |rfl |rfl<;>simp [Value.oneCell']
theorem yy (l:List Int):∀ v∈isl l,v.oneCell'=true:=by
 intro v hv
 simp only[isl,List.mem_map]at hv
 obtain⟨d,_,rfl⟩:=hv
 simp [Value.oneCell']
theorem wL {P:Program} {w:World} (base:Nat) (t ty e:TypeId) (i:TypeInfo) (z:Value) (size bytes:Nat) (ht:P.underlying t=some (.slice e)) (hi:P.info? e=some i) (hz:i.zero=some z)
    (hsize:i.size=size) (hby:i.bytes=bytes) (hzs:z.cells.size=size) (hsz:0<size)
    (v:Value) (n:Nat) (xs:List Value) (hown:w.ownsRow base e size v n xs) (A:Option Addr) (m c:Nat) (news:List Value) (hr:RdA w size A m news) (h1:∀ u∈news,u.oneCell'=true)
    (h63:n+m≤maxLen) (hbytes:(n+m)*bytes≤140737488355328) (hbase:base≤w.heap.size):
    ∃ v' w',(Builtin.append_ #[t,t] ty #[v,.slice A m c]).run P w= .ok v' w'∧w'.ownsRow base e size v' (n+m) (xs++news)∧w.grownBy w' v.ownBlock∧(v'.ownBlock=v.ownBlock∨v'.ownBlock=some w.heap.size):=by
  cases A with
  | some ad=>
    have hcells:∀ j u,news[j]? =some u→w.cell? (ad.add j)=some u:=by
      intro j u hu
      rcases Nat.eq_zero_or_pos m with h0 |h0
      · have:news=[]:=List.eq_nil_of_length_eq_zero (by have:=hr.1;rw[h0]at this;simpa using this)
        subst this;simp at hu
      · obtain⟨ad',he,_,hc⟩:=hr.2 h0
        injection he with he;subst he
        exact hc j u hu
    obtain⟨v',w',hrun,h2,h3,_,h5⟩:=run_append_own_at (P:=P) w base t ty e i z size bytes ht hi hz hsize hby hzs hsz v n xs hown ad m c news hr.1 hcells h1 h63 hbytes hbase
    exact⟨v',w',hrun,h2,h3,h5⟩
  | none=>
    have h0:m=0:=by
      rcases Nat.eq_zero_or_pos m with h |h
      · exact h
      · obtain⟨ad',he,_⟩:=hr.2 h;cases he
    subst h0
    have hn:news=[]:=List.eq_nil_of_length_eq_zero (by simpa using hr.1)
    subst hn
    refine⟨v,w,?_,by simpa using hown,BN _ _,.inl rfl⟩
    rcases hown.2 with⟨hv,hn⟩ |⟨g,cap,cur,hv,_,_,hnc,_⟩
    · subst hv;subst hn
      simp [Builtin.append_,run_underlying ht,sizeOf,typeInfo,hi,Builtin.lenOf,Builtin.firstCells]
    · subst hv
      simp [Builtin.append_,run_underlying ht,sizeOf,typeInfo,hi,Builtin.lenOf,Builtin.firstCells,hnc,storeCells]
theorem eF {P:Program} {w:World} {ops:Array Oper} {rest:List Oper} {o:Oper} {a:Act} {Q:Exit→Act→World→Prop} (hgd:o.guard=none) (s x:Operand) (t:TypeId)
  (ho:o.op= .call { callee:= .builtin .append,args:= #[s,x],argTypes:= #[t,t] })
  (base:Nat) (e:TypeId) (i:TypeInfo) (z:Value) (size bytes:Nat) (ht:P.underlying t=some (.slice e)) (hi:P.info? e=some i) (hz:i.zero=some z)
  (hsize:i.size=size) (hby:i.bytes=bytes) (hzs:z.cells.size=size) (hsz:0<size)
  (v:Value) (n:Nat) (xs:List Value) (hs:a.eval s=v) (A:Option Addr) (m c:Nat) (hx:a.eval x= .slice A m c) (hown:w.ownsRow base e size v n xs)
  (news:List Value) (hr:RdA w size A m news) (h1:∀ u∈news,u.oneCell'=true)
  (h63:n+m≤maxLen) (hbytes:(n+m)*bytes≤140737488355328) (hbase:base≤w.heap.size)
  (h:∀ v' w',w'.ownsRow base e size v' (n+m) (xs++news)→w.grownBy w' v.ownBlock→(v'.ownBlock=v.ownBlock∨v'.ownBlock=some w.heap.size)→wpList P ops Q rest (a.put o.dst v') w'):
  wpList P ops Q (o::rest) a w:=by
 refine wpList_plain hgd fun K hK=> ?_
 obtain⟨v',w',hrr,h2,h3,h5⟩:=wL (P:=P) base t o.type e i z size bytes ht hi hz hsize hby hzs hsz v n xs hown A m c news hr h1 h63 hbytes hbase
 unfold Oper.wp execOp
 simp only[ho,resolve,invoke,builtin,Sem.run_bind,Sem.run_pure,Result.andThen_ok,List.map_toArray,List.map_cons,List.map_nil,hs,hx,hrr]
 exact hK _ _ (h v' w' h2 h3 h5)
theorem Rd.toA {w:World} {size n:Nat} {A:Option Addr} {xs:List Value} (h:Rd w size A n xs):RdA w size A n xs:=
 ⟨h.1,fun hn=>by
  obtain⟨g,off,e,hg,hc⟩:=h.2 hn
  refine⟨_,e,hg,fun j u hu=> ?_⟩
  have hadd:(⟨g,off,none⟩:Addr).add j=⟨g,off+j,none⟩:=by unfold Addr.add;split<;>simp_all
  rw[hadd];exact hc j u hu⟩
theorem KJ {w:World} {S n c lo:Nat} {A D:Option Addr} {xs:List Value} (h:Rd w S A n xs) (hc:n≤c) (hlo:lo≤n) (hD:c≠lo→D=A.map (·.add (lo*S))):Rd w S D (n-lo) (xs.drop (lo*S)):=by
  refine⟨by rw[List.length_drop,h.1,Nat.sub_mul],fun hp=> ?_⟩
  obtain⟨g,off,e,hg,hcell⟩:=h.2 (by omega)
  have hadd:(⟨g,off,none⟩:Addr).add (lo*S)=⟨g,off+lo*S,none⟩:=by unfold Addr.add;split<;>simp_all
  refine⟨g,off+lo*S,by rw[hD (by omega),e];simp [hadd],hg,fun j u hu=> ?_⟩
  rw[List.getElem?_drop]at hu
  rw[Nat.add_assoc];exact hcell _ _ hu
theorem KK {w:World} {S n hi:Nat} {A:Option Addr} {xs:List Value} (h:Rd w S A n xs) (hh:hi≤n):Rd w S A hi (xs.take (hi*S)):=by
 have hle:hi*S≤n*S:=Nat.mul_le_mul_right _ hh
 refine⟨by rw[List.length_take,h.1];omega,fun hp=> ?_⟩
 obtain⟨g,off,e,hg,hcell⟩:=h.2 (by omega)
 refine⟨g,off,e,hg,fun j u hu=> ?_⟩
 rw[List.getElem?_take]at hu
 split at hu
 ·exact hcell _ _ hu
 ·cases hu
theorem wW {P:Program} {ops:Array Oper} {rest:List Oper} {o:Oper} {a:Act} {w:World} {Q:Exit→Act→World→Prop} (h:wpList P ops Q (o::rest) a w):wpList P ops Q (o::rest) a w:=h
theorem tA {w:World} {n hi:Nat} {A:Option Addr} {out:List Dom} (h:Rd w 3 A n (dsl out)) (hh:hi≤n):RdA w 3 A hi (dsl (out.take hi)):=by
 rw[←uK];exact(KK h hh).toA
theorem tz {w:World} {n c lo L:Nat} {A D:Option Addr} {out:List Dom} (h:Rd w 3 A n (dsl out)) (hc:n≤c) (hlo:lo≤n) (hD:c≠lo→D=A.map (·.add (lo*3))) (hL:L=n-lo):RdA w 3 D L (dsl (out.drop lo)):=by
  subst hL;rw[←zP];exact(KJ h hc hlo hD).toA
theorem vL {w:World} (d:Dom) (T:TypeId):RdA (w.alloc (.cells #[.int .i64 d.x,.int .i64 d.y,.bool d.d] T)) 3 (some ⟨w.heap.size,0,none⟩) 1 (dsl [d]):=
 (CD w T 3 1 #[.int .i64 d.x,.int .i64 d.y,.bool d.d] rfl).toA
theorem AD {w:World} {B e size n n':Nat} {v:Value} {xs:List Value} (h:w.ownsRow B e size v n xs) (hn:n=n'):w.ownsRow B e size v n' xs:=hn▸h
theorem vj (w:World) (e size:Nat):(w.alloc (.cells #[] e)).ownsRow w.heap.size e size (.slice (some ⟨w.heap.size,0,none⟩) 0 0) 0 []:=yW w e size 0 #[] (by simp) (Nat.zero_le _)
theorem pL (w:World) (k e size:Nat):((w.drewN k).alloc (.cells #[] e)).ownsRow w.heap.size e size (.slice (some ⟨w.heap.size,0,none⟩) 0 0) 0 []:=vj (w.drewN k) e size
theorem rJ {b n c j:Nat} (h:(Value.slice (some ⟨b,0,none⟩) n c).ownBlock=some j):b=j:=by simpa [Value.ownBlock] using h
end Go.Proofs.YtonlghbbdcddoaaGreat
