
import Derived.Test.YtgmkkfdnmdohlaaGreatDoorBase
import Derived.Laws.CopyOwn
set_option linter.unusedSimpArgs false
set_option linter.unusedVariables false
namespace Go.Proofs.YtgmkkfdnmdohlaaGreatDoor
open Go.ChangeShapes Go.WideShapes Go.ChangeAt Go.RowKit
set_option maxRecDepth 20000
theorem ui {P:Program} (w:World) (dT sT ty elem:TypeId) (g o dLen dCap:Nat) (a:Addr) (sLen sCap:Nat) (cur:Array Value) (t:TypeId) (cs:List Value) (S:Nat)
    (hu:P.underlying dT=some (.slice elem)) (hs:(P.info? elem).map (·.size)=some S)
    (hg:w.heap[g]? =some (.cells cur t (0,0))) (hn:cs.length=Nat.min sLen dLen*S)
    (hsrc:∀ j v,cs[j]? =some v→w.cell? (a.add j)=some v) (hfit:o+cs.length≤cur.size) (h1:∀ v∈cs,v.oneCell'=true):
    (Builtin.copy_ #[dT,sT] ty #[.slice (some ⟨g,o,none⟩) dLen dCap,.slice (some a) sLen sCap]).run P w=
      .ok (goInt (Nat.min sLen dLen)) (w.setRow g (cur.toList.take o++cs++cur.toList.drop (o+cs.length)).toArray):=by
  have hl:=run_loadCells_list (P:=P) w a cs hsrc
  have hst:=run_storeCells_at P g o t cs 0 cur w hg (by simpa using hfit) h1
  cases hq:P.info? elem with
  | none=>simp [hq]at hs
  | some i=>
    have hi:i.size=S:=by simpa [hq] using hs
    simp [Builtin.copy_,run_underlying hu,Builtin.lenOf,Builtin.firstCells,sizeOf,typeInfo,hq,hi,←hn,hl,hst]
theorem tD {P:Program} (w:World) (dT sT ty elem:TypeId) (d a:Option Addr) (dLen dCap sLen sCap S:Nat) (hu:P.underlying dT=some (.slice elem)) (hs:(P.info? elem).map (·.size)=some S) (hn:Nat.min sLen dLen=0):
    (Builtin.copy_ #[dT,sT] ty #[.slice d dLen dCap,.slice a sLen sCap]).run P w= .ok (goInt 0) w:=by
  cases hq:P.info? elem with
  | none=>simp [hq]at hs
  | some i=>
    have hl:∀ (x:Addr),(loadCells x 0).run P w= .ok #[] w:=fun x=>by simpa using run_loadCells_list (P:=P) w x [] (by simp)
    cases d<;>cases a<;>simp [Builtin.copy_,run_underlying hu,Builtin.lenOf,Builtin.firstCells,sizeOf,typeInfo,hq,hn,storeCells,hl]
theorem yC {α:Type} (X cs:List α) (N off:Nat) (hN:N≤X.length) (h:off+cs.length≤N):
  (X.take off++cs++X.drop (off+cs.length)).take N=(X.take N).take off++cs++(X.take N).drop (off+cs.length):=by
 have e1:(X.take N).take off=X.take off:=by rw[List.take_take];congr 1;omega
 rw[e1,List.take_append,List.take_of_length_le (by rw[List.length_append,List.length_take];omega),List.drop_take]
 congr 2
 rw[List.length_append,List.length_take];omega
theorem zq {w:World} {B e size n c g:Nat} {xs:List Value} (hown:w.ownsRow B e size (.slice (some ⟨g,0,none⟩) n c) n xs):
  ∃ cur:Array Value,w.heap[g]? =some (.cells cur e (0,0))∧n*size≤cur.size∧∀ (off:Nat) (cs:List Value),off+cs.length≤n*size→
   (w.setRow g (cur.toList.take off++cs++cur.toList.drop (off+cs.length)).toArray).ownsRow B e size (.slice (some ⟨g,0,none⟩) n c) n (xs.take off++cs++xs.drop (off+cs.length)):=by
 obtain⟨h1,h2⟩:=hown
 rcases h2 with⟨hv,h0⟩ |⟨g',cap,cur,hv,hb,hg,hn,hm,hs,hx⟩
 ·cases hv
 ·injection hv with e1 e2 e3
  injection e1 with e1
  injection e1 with e1
  subst e1;subst e3
  have hle:n*size≤c*size:=Nat.mul_le_mul_right _ hn
  refine⟨cur,hg,by omega,fun off cs hfit=>⟨?_,.inr ⟨g,c,_,rfl,hb,setRow_heap w g cur _ e _ hg,hn,hm,?_,?_⟩⟩⟩
  ·rw[List.length_append,List.length_append,List.length_take,List.length_drop];omega
  ·simp only[List.size_toArray,List.length_append,List.length_take,List.length_drop,Array.length_toList];omega
  ·simp only
   rw[←hx]
   exact yC cur.toList cs (n*size) off (by rw[Array.length_toList];omega) hfit
theorem mz {P:Program} {ops:Array Oper} {o:Oper} {a:Act} {w:World} {K:Act→World→Prop} {Q:Exit→Act→World→Prop} {E:Prop} (hgd:o.guard=none) (d s:Operand) (dT sT:TypeId)
    (ho:o.op= .call { callee:= .builtin .copy,args:= #[d,s],argTypes:= #[dT,sT] }) (elem:TypeId) (S:Nat) (hu:P.underlying dT=some (.slice elem)) (hsz:(P.info? elem).map (·.size)=some S)
    (dp sp:Option Addr) (dLen dCap sLen sCap:Nat) (hd:a.eval d= .slice dp dLen dCap) (hs:a.eval s= .slice sp sLen sCap)
    (B e n c g:Nat) (xs:List Value) (hown:w.ownsRow B e S (.slice (some ⟨g,0,none⟩) n c) n xs) (off:Nat) (cs:List Value) (hn:cs.length=Nat.min sLen dLen*S)
    (hpos:0<cs.length→dp=some ⟨g,off,none⟩∧∃ ad,sp=some ad∧∀ j v,cs[j]? =some v→w.cell? (ad.add j)=some v) (hS:0<S)
    (hfit:off+cs.length≤n*S) (h1:∀ v∈cs,v.oneCell'=true)
    (h:∀ w',w'.ownsRow B e S (.slice (some ⟨g,0,none⟩) n c) n (xs.take off++cs++xs.drop (off+cs.length))→w.grownBy w' (some g)→K (a.put o.dst (goInt (Nat.min sLen dLen))) w'):
    if Region.wanted o (yielded ops a.tmps)=true then Oper.wp P o a w K Q else E:=by
  have hw:Region.wanted o (yielded ops a.tmps)=true:=by simp [Region.wanted,hgd]
  rw[if_pos hw]
  by_cases h0:cs.length=0
  · obtain rfl:cs=[]:=List.eq_nil_of_length_eq_zero h0
    have hmin:Nat.min sLen dLen=0:=by
      rcases Nat.eq_zero_or_pos (Nat.min sLen dLen)with h |h
      · exact h
      · have:=Nat.mul_pos h hS
        simp at hn;omega
    have hrun:=tD (P:=P) w dT sT o.type elem dp sp dLen dCap sLen sCap S hu hsz hmin
    unfold Oper.wp
    simp [execOp,ho,resolve,invoke,builtin,hd,hs,hrun,Result.andThen]
    have:=h w (by simpa using hown) (sE _ _)
    rwa [hmin]at this
  · obtain⟨rfl,ad,rfl,hsrc⟩:=hpos (by omega)
    obtain⟨cur,hg,hle,hset⟩:=zq hown
    have hrun:=ui (P:=P) w dT sT o.type elem g off dLen dCap ad sLen sCap cur e cs S hu hsz hg hn hsrc (by omega) h1
    unfold Oper.wp
    simp only[execOp,ho,resolve,invoke,builtin,Sem.run_bind,Sem.run_pure,Result.andThen_ok,List.map_toArray,List.map_cons,List.map_nil,hd,hs,hrun]
    exact h _ (hset off cs hfit) ⟨rfl,rfl,rfl,by simp [World.setRow],fun k _ hk=>setRow_other w g k _ (fun e=>hk (by rw[e]))⟩
theorem kb (P:Program) (t e:TypeId) (S:Nat) (hu:P.underlying t=some (.slice e)) (hs:(P.info? e).map (·.size)=some S) (a:Option Addr) (n c lo:Nat) (l:Int) (hl:l=lo) (h:lo≤n):
    ∃ (D:Option Addr) (L C:Nat),((c≠lo→D=a.map (·.add (lo*S)))∧L=n-lo∧C=c-lo)∧∀ w:World,(Instr.slice t (.slice a n c) (some (.int .i64 l)) none none).run P w= .ok (.slice D L C) w:=by
  subst hl
  have he:P.elem t=e:=by unfold Program.elem;rw[hu]
  cases hq:P.info? e with
  | none=>simp [hq]at hs
  | some i=>
    have hi:i.size=S:=by simpa [hq] using hs
    refine⟨if c=lo then a else a.map (·.add (lo*S)),n-lo,c-lo,⟨fun hne=>by rw[if_neg hne],rfl,rfl⟩,fun w=> ?_⟩
    rw[run_slice_l (P:=P) w t a n c (by rw[he];exact hu) .i64 _ (by omega) (by omega)]
    simp [sizeOf,typeInfo,he,hq,hi,sliced]
theorem Dw (P:Program) (t e:TypeId) (S:Nat) (hu:P.underlying t=some (.slice e)) (hs:(P.info? e).map (·.size)=some S) (a:Option Addr) (n c hi:Nat) (l:Int) (hl:l=hi) (h:hi≤c):
    ∀ w:World,(Instr.slice t (.slice a n c) none (some (.int .i64 l)) none).run P w= .ok (.slice a hi c) w:=by
  subst hl
  have he:P.elem t=e:=by unfold Program.elem;rw[hu]
  cases hq:P.info? e with
  | none=>simp [hq]at hs
  | some i=>
    intro w
    rw[run_slice_h (P:=P) w t a n c (by rw[he];exact hu) .i64 _ (by omega) (by omega)]
    simp [sizeOf,typeInfo,he,hq,sliced]
    intro _;cases a<;>simp [Addr.add]
theorem vY {α:Type} (f:α→List Value) (s:Nat) (hf:∀ a,(f a).length=s) (l:List α) (k:Nat):(l.flatMap f).take (k*s)=(l.take k).flatMap f:=by
  induction l generalizing k with
  | nil=>simp
  | cons a l ih=>
    cases k with
    | zero=>simp
    | succ k=>
      rw[List.flatMap_cons,List.take_append,List.take_of_length_le (by rw[hf,Nat.succ_mul];omega),hf,Nat.succ_mul,Nat.add_sub_cancel,ih,List.take_succ_cons,List.flatMap_cons]
theorem vX {α:Type} (f:α→List Value) (s:Nat) (hf:∀ a,(f a).length=s) (l:List α) (k:Nat):(l.flatMap f).drop (k*s)=(l.drop k).flatMap f:=by
  induction l generalizing k with
  | nil=>simp
  | cons a l ih=>
    cases k with
    | zero=>simp
    | succ k=>
      rw[List.flatMap_cons,List.drop_append,List.drop_eq_nil_of_le (by rw[hf,Nat.succ_mul];omega),hf,Nat.succ_mul,Nat.add_sub_cancel,ih,List.drop_succ_cons,List.nil_append]
theorem oJ (l:List Dom) (k:Nat):(dsl l).take (k*3)=dsl (l.take k):=vY Dom.cs 3 (fun _=>rfl) l k
theorem sv (l:List Dom) (k:Nat):(dsl l).drop (k*3)=dsl (l.drop k):=vX Dom.cs 3 (fun _=>rfl) l k
theorem jG (l:List Dom):∀ v∈dsl l,v.oneCell'=true:=by
 intro v hv
 simp only[dsl,List.mem_flatMap]at hv
 obtain⟨d,_,hd⟩:=hv
 simp [Dom.cs]at hd
 rcases hd with rfl |rfl |rfl<;>simp [Value.oneCell']
theorem wh (l:List Int):∀ v∈isl l,v.oneCell'=true:=by
 intro v hv
 simp only[isl,List.mem_map]at hv
 obtain⟨d,_,rfl⟩:=hv
 simp [Value.oneCell']
theorem uh {P:Program} {w:World} (base:Nat) (t ty e:TypeId) (i:TypeInfo) (z:Value) (size bytes:Nat) (ht:P.underlying t=some (.slice e)) (hi:P.info? e=some i) (hz:i.zero=some z)
    (hsize:i.size=size) (hby:i.bytes=bytes) (hzs:z.cells.size=size) (hsz:0<size)
    (v:Value) (n:Nat) (xs:List Value) (hown:w.ownsRow base e size v n xs) (A:Option Addr) (m c:Nat) (news:List Value) (hr:RdA w size A m news) (h1:∀ u∈news,u.oneCell'=true)
    (h63:n+m≤maxLen) (hbytes:(n+m)*bytes≤140737488355328) (hbase:base≤w.heap.size):
    ∃ v' w',(Builtin.append_ #[t,t] ty #[v,.slice A m c]).run P w= .ok v' w'∧w'.ownsRow base e size v' (n+m) (xs++news)∧w.grownBy w' v.ownBlock∧(v'.ownBlock=v.ownBlock∨v'.ownBlock=some w.heap.size):=by
  cases A with
  | some ad=>
    have hcells:∀ j u,news[j]? =some u→w.cell? (ad.add j)=some u:=by
      intro j u hu
      rcases Nat.eq_zero_or_pos m with h0 |h0
      · have:news=[]:=List.eq_nil_of_length_eq_zero (by have:=hr.1;rw[h0]at this;simpa using this)
        subst this;simp at hu
      · obtain⟨ad',he,_,hc⟩:=hr.2 h0
        injection he with he;subst he
        exact hc j u hu
    obtain⟨v',w',hrun,h2,h3,_,h5⟩:=run_append_own_at (P:=P) w base t ty e i z size bytes ht hi hz hsize hby hzs hsz v n xs hown ad m c news hr.1 hcells h1 h63 hbytes hbase
    exact⟨v',w',hrun,h2,h3,h5⟩
  | none=>
    have h0:m=0:=by
      rcases Nat.eq_zero_or_pos m with h |h
      · exact h
      · obtain⟨ad',he,_⟩:=hr.2 h;cases he
    subst h0
    have hn:news=[]:=List.eq_nil_of_length_eq_zero (by simpa using hr.1)
    subst hn
    refine⟨v,w,?_,by simpa using hown,sE _ _,.inl rfl⟩
    rcases hown.2 with⟨hv,hn⟩ |⟨g,cap,cur,hv,_,_,hnc,_⟩
    · subst hv;subst hn
      simp [Builtin.append_,run_underlying ht,sizeOf,typeInfo,hi,Builtin.lenOf,Builtin.firstCells]
    · subst hv
      simp [Builtin.append_,run_underlying ht,sizeOf,typeInfo,hi,Builtin.lenOf,Builtin.firstCells,hnc,storeCells]
theorem dJ {P:Program} {w:World} {ops:Array Oper} {rest:List Oper} {o:Oper} {a:Act} {Q:Exit→Act→World→Prop} (hgd:o.guard=none) (s x:Operand) (t:TypeId)
  (ho:o.op= .call { callee:= .builtin .append,args:= #[s,x],argTypes:= #[t,t] })
  (base:Nat) (e:TypeId) (i:TypeInfo) (z:Value) (size bytes:Nat) (ht:P.underlying t=some (.slice e)) (hi:P.info? e=some i) (hz:i.zero=some z)
  (hsize:i.size=size) (hby:i.bytes=bytes) (hzs:z.cells.size=size) (hsz:0<size)
  (v:Value) (n:Nat) (xs:List Value) (hs:a.eval s=v) (A:Option Addr) (m c:Nat) (hx:a.eval x= .slice A m c) (hown:w.ownsRow base e size v n xs)
  (news:List Value) (hr:RdA w size A m news) (h1:∀ u∈news,u.oneCell'=true)
  (h63:n+m≤maxLen) (hbytes:(n+m)*bytes≤140737488355328) (hbase:base≤w.heap.size)
  (h:∀ v' w',w'.ownsRow base e size v' (n+m) (xs++news)→w.grownBy w' v.ownBlock→(v'.ownBlock=v.ownBlock∨v'.ownBlock=some w.heap.size)→wpList P ops Q rest (a.put o.dst v') w'):
  wpList P ops Q (o::rest) a w:=by
 refine wpList_plain hgd fun K hK=> ?_
 obtain⟨v',w',hrr,h2,h3,h5⟩:=uh (P:=P) base t o.type e i z size bytes ht hi hz hsize hby hzs hsz v n xs hown A m c news hr h1 h63 hbytes hbase
 unfold Oper.wp execOp
 simp only[ho,resolve,invoke,builtin,Sem.run_bind,Sem.run_pure,Result.andThen_ok,List.map_toArray,List.map_cons,List.map_nil,hs,hx,hrr]
 exact hK _ _ (h v' w' h2 h3 h5)
theorem Rd.toA {w:World} {size n:Nat} {A:Option Addr} {xs:List Value} (h:Rd w size A n xs):RdA w size A n xs:=
 ⟨h.1,fun hn=>by
  obtain⟨g,off,e,hg,hc⟩:=h.2 hn
  refine⟨_,e,hg,fun j u hu=> ?_⟩
  have hadd:(⟨g,off,none⟩:Addr).add j=⟨g,off+j,none⟩:=by unfold Addr.add;split<;>simp_all
  rw[hadd];exact hc j u hu⟩
theorem HW {w:World} {S n c lo:Nat} {A D:Option Addr} {xs:List Value} (h:Rd w S A n xs) (hc:n≤c) (hlo:lo≤n) (hD:c≠lo→D=A.map (·.add (lo*S))):Rd w S D (n-lo) (xs.drop (lo*S)):=by
  refine⟨by rw[List.length_drop,h.1,Nat.sub_mul],fun hp=> ?_⟩
  obtain⟨g,off,e,hg,hcell⟩:=h.2 (by omega)
  have hadd:(⟨g,off,none⟩:Addr).add (lo*S)=⟨g,off+lo*S,none⟩:=by unfold Addr.add;split<;>simp_all
  refine⟨g,off+lo*S,by rw[hD (by omega),e];simp [hadd],hg,fun j u hu=> ?_⟩
  rw[List.getElem?_drop]at hu
  rw[Nat.add_assoc];exact hcell _ _ hu
theorem HX {w:World} {S n hi:Nat} {A:Option Addr} {xs:List Value} (h:Rd w S A n xs) (hh:hi≤n):Rd w S A hi (xs.take (hi*S)):=by
 have hle:hi*S≤n*S:=Nat.mul_le_mul_right _ hh
 refine⟨by rw[List.length_take,h.1];omega,fun hp=> ?_⟩
 obtain⟨g,off,e,hg,hcell⟩:=h.2 (by omega)
 refine⟨g,off,e,hg,fun j u hu=> ?_⟩
 rw[List.getElem?_take]at hu
 split at hu
 ·exact hcell _ _ hu
 ·cases hu
theorem up {P:Program} {ops:Array Oper} {rest:List Oper} {o:Oper} {a:Act} {w:World} {Q:Exit→Act→World→Prop} (h:wpList P ops Q (o::rest) a w):wpList P ops Q (o::rest) a w:=h
theorem rb {w:World} {n hi:Nat} {A:Option Addr} {out:List Dom} (h:Rd w 3 A n (dsl out)) (hh:hi≤n):RdA w 3 A hi (dsl (out.take hi)):=by
 rw[←oJ];exact(HX h hh).toA
theorem ra {w:World} {n c lo L:Nat} {A D:Option Addr} {out:List Dom} (h:Rd w 3 A n (dsl out)) (hc:n≤c) (hlo:lo≤n) (hD:c≠lo→D=A.map (·.add (lo*3))) (hL:L=n-lo):RdA w 3 D L (dsl (out.drop lo)):=by
  subst hL;rw[←sv];exact(HW h hc hlo hD).toA
theorem tx {w:World} (d:Dom) (T:TypeId):RdA (w.alloc (.cells #[.int .i64 d.x,.int .i64 d.y,.bool d.d] T)) 3 (some ⟨w.heap.size,0,none⟩) 1 (dsl [d]):=
 (Kt w T 3 1 #[.int .i64 d.x,.int .i64 d.y,.bool d.d] rfl).toA
theorem pa {w:World} {B e size n n':Nat} {v:Value} {xs:List Value} (h:w.ownsRow B e size v n xs) (hn:n=n'):w.ownsRow B e size v n' xs:=hn▸h
theorem sX (w:World) (e size:Nat):(w.alloc (.cells #[] e)).ownsRow w.heap.size e size (.slice (some ⟨w.heap.size,0,none⟩) 0 0) 0 []:=rQ w e size 0 #[] (by simp) (Nat.zero_le _)
theorem nG (w:World) (k e size:Nat):((w.drewN k).alloc (.cells #[] e)).ownsRow w.heap.size e size (.slice (some ⟨w.heap.size,0,none⟩) 0 0) 0 []:=sX (w.drewN k) e size
theorem pS {b n c j:Nat} (h:(Value.slice (some ⟨b,0,none⟩) n c).ownBlock=some j):b=j:=by simpa [Value.ownBlock] using h
end Go.Proofs.YtgmkkfdnmdohlaaGreatDoor
