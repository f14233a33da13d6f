
import Derived.Test.YtgmkkfdnmdohlaaGreatDoorFlip
set_option linter.unusedSimpArgs false
set_option linter.unusedVariables false
namespace Go.Proofs.YtgmkkfdnmdohlaaGreatDoor
open Go.ChangeShapes Go.WideShapes Go.ChangeAt Go.RowKit
set_option maxRecDepth 20000
def gi (i:Nat):Cel:=⟨((i%8:Nat):Int),((i/8:Nat):Int)⟩
theorem qO (i:Nat) (hi:i<64) (w:World):
  Calls Tryz.prog 71 #[.int .i64 (i:Int)] w fun e w'=>e= .returned (.agg #[.int .i64 (gi i).x,.int .i64 (gi i).y])∧Below w.heap.size w w':=by
 go_enter Tryz.func71,Tryz.ntmps71
 go_wp2
 exact bodyPost_ret (v:= .agg #[.int .i64 (gi i).x,.int .i64 (gi i).y]) (by simp [results,Tryz.results71,go_sem,gi]) rfl ⟨rfl,by((repeat(first |exact Below.refl _ _ |with_reducible assumption |refine Below.alloc0 ?_ _ |refine Below.step0 ?_ (by with_reducible assumption) |refine Below.step ?_ (by with_reducible assumption) ?_ |refine Below.alloc ?_ ?_ _ |refine Below.drew ?_ |refine bb ?_ _ |refine Below.setCell ?_ ?_ _))<;>(first |omega |exact hsz |exact Below.size (by with_reducible assumption) |(simp;done) |(simp;omega) |(simp at*;omega)))⟩
def canN (l:List Dom) (i:Nat):Bool:=cS l (gi i).x (gi i).y
def flN (l:List Dom) (k:Nat):List Cel:=((List.range k).filter (canN l)).map gi
theorem GN {l:List Dom} {k:Nat} (h:canN l k=true):flN l (k+1)=flN l k++[gi k]:=by
 unfold flN;rw[List.range_succ,List.filter_append,List.map_append];simp [h]
theorem JK {l:List Dom} {k:Nat} (h:canN l k=false):flN l (k+1)=flN l k:=by
 unfold flN;rw[List.range_succ,List.filter_append,List.map_append];simp [h]
theorem Ai (l:List Dom) (k:Nat):(flN l k).length≤k:=by
 unfold flN;rw[List.length_map];exact Nat.le_trans (List.length_filter_le _ _) (by simp)
def aM (l:List Dom):List Cel:=flN l 64
set_option maxHeartbeats 2000000 in
theorem vZ (l:List Dom) (A:Option Addr) (n c:Nat) (w:World) (hrd:Rd w 3 A n (dsl l)) (hl:n≤4194304):
    Calls Tryz.prog 45 #[.slice A n c] w fun e w'=>∃ v,e= .returned v∧w'.ownsRow w.heap.size 70 2 v (aM l).length (csl (aM l))∧Below w.heap.size w w':=by
  obtain⟨i0,hi0,hz0,hz1,hz2⟩:=info_parts Ej
  have hown0:(w.alloc (.cells #[] 70)).ownsRow w.heap.size 70 2 (.slice (some ⟨w.heap.size,0,none⟩) 0 0) 0 []:=rQ w 70 2 0 #[] rfl (Nat.zero_le _)
  have HO:=Lib.hid hown0
  clear hown0
  go_enter Tryz.func45,Tryz.ntmps45
  go_wp2
  go_loopw [3,4,6] (fun v _ i wr=>∃ (k:Nat),k≤64∧i= .int .i64 k∧wr.ownsRow w.heap.size 70 2 v (flN l k).length (csl (flN l k))∧Below w.heap.size w wr) (fun _ _ i _=>64-(intOf i).toNat)
  case atStart=>exact⟨0,by omega,rfl,by simpa [flN,csl] using HO.out,by((repeat(first |exact Below.refl _ _ |with_reducible assumption |refine Below.alloc0 ?_ _ |refine Below.step0 ?_ (by with_reducible assumption) |refine Below.step ?_ (by with_reducible assumption) ?_ |refine Below.alloc ?_ ?_ _ |refine Below.drew ?_ |refine bb ?_ _ |refine Below.setCell ?_ ?_ _))<;>(first |omega |exact hsz |exact Below.size (by with_reducible assumption) |(simp;done) |(simp;omega) |(simp at*;omega)))⟩
  case round=>
    obtain⟨k,hk,rfl,hown,hbw⟩:=hrel
    clear HO
    have hsz:=hbw.size
    have hln:=Ai l k
    by_cases hlt:k<64
    · by_cases hcan:canN l k=true
      · have HY:=Lib.hid (GN hcan)
        have hc2:cS l (gi k).x (gi k).y=true:=hcan
        clear hcan
        go_wp2_with (first
          | (go_at_call 71;refine(qO _ hlt _).mono ?_;rintro e w1 ⟨rfl,hb1⟩)
          | (go_at_call 70;refine Calls.mono (kN l _ _ _ _ _ _ ?_ hl) ?_;(((repeat(first |with_reducible assumption |with_reducible refine Rd.alloc ?_ _ |with_reducible refine Rd.step ?_ (by with_reducible assumption) |with_reducible refine Rd.drew ?_ |with_reducible refine Rd.drewN ?_ _ |with_reducible refine RdA.alloc ?_ _ |with_reducible refine RdA.step ?_ (by with_reducible assumption) |with_reducible refine RdA.drew ?_ |with_reducible refine RdA.drewN ?_ _))));rintro e w2 ⟨rfl,hb2⟩)
          | (at_builtin;refine wpList_append_own_at _ rfl (.tmp 13) (.tmp 16) 36 rfl w.heap.size 70 i0 (.agg #[.int .i64 0,.int .i64 0]) 2 16 Tryz.underlying36 hi0 hz0 hz1 hz2 rfl (by omega) u3 (flN l k).length (csl (flN l k)) rfl ?_ ⟨w1.heap.size,0,none⟩ 1 1 [.int .i64 (gi k).x,.int .i64 (gi k).y] rfl rfl ?_ ?_ ?_ ?_ ?_ ?_;(((repeat(first |with_reducible assumption |with_reducible refine cr ?_ _ |with_reducible refine dB ?_ (by with_reducible assumption) |with_reducible refine cF ?_ |with_reducible refine cP ?_ _))));(exact yS _ _ _ _);(simp [Value.oneCell']);(unfold maxLen;omega);omega;(((repeat(first |exact Nat.le_refl _ |with_reducible assumption |with_reducible refine Nat.le_trans ?_ (Below.size (by with_reducible assumption)) |with_reducible refine Nat.le_trans ?_ (ck (by with_reducible assumption)) |with_reducible refine co ?_ _ |with_reducible refine cp ?_ _ |with_reducible refine cB ?_))));intro v' w4 hown4 hgr4 _ hat4))
        go_roundw
        case rel=>
          refine⟨k+1,by omega,by go_num,?_,?_⟩
          · rw[HY.out,List.length_append,sn];exact hown4
          · refine dc ?_ hgr4 (fun j hj=>(hown.lt j hj).1) ?_
            · ((repeat(first |exact Below.refl _ _ |with_reducible assumption |refine Below.alloc0 ?_ _ |refine Below.step0 ?_ (by with_reducible assumption) |refine Below.step ?_ (by with_reducible assumption) ?_ |refine Below.alloc ?_ ?_ _ |refine Below.drew ?_ |refine bb ?_ _ |refine Below.setCell ?_ ?_ _))<;>(first |omega |exact hsz |exact Below.size (by with_reducible assumption) |(simp;done) |(simp;omega) |(simp at*;omega)))
            · ((repeat(first |exact Nat.le_refl _ |with_reducible assumption |with_reducible refine Nat.le_trans ?_ (Below.size (by with_reducible assumption)) |with_reducible refine Nat.le_trans ?_ (ck (by with_reducible assumption)) |with_reducible refine co ?_ _ |with_reducible refine cp ?_ _ |with_reducible refine cB ?_)))
        case measure=>simp [intOf];omega
      · have hc2:cS l (gi k).x (gi k).y=false:=by simpa [canN] using hcan
        have HY:=Lib.hid (JK (l:=l) (k:=k) hc2)
        clear hcan
        go_wp2_with (first
          | (go_at_call 71;refine(qO _ hlt _).mono ?_;rintro e w1 ⟨rfl,hb1⟩)
          | (go_at_call 70;refine Calls.mono (kN l _ _ _ _ _ _ ?_ hl) ?_;(((repeat(first |with_reducible assumption |with_reducible refine Rd.alloc ?_ _ |with_reducible refine Rd.step ?_ (by with_reducible assumption) |with_reducible refine Rd.drew ?_ |with_reducible refine Rd.drewN ?_ _ |with_reducible refine RdA.alloc ?_ _ |with_reducible refine RdA.step ?_ (by with_reducible assumption) |with_reducible refine RdA.drew ?_ |with_reducible refine RdA.drewN ?_ _))));rintro e w2 ⟨rfl,hb2⟩))
        go_roundw
        case rel=>
          refine⟨k+1,by omega,by go_num,?_,?_⟩
          · rw[HY.out];((repeat(first |with_reducible assumption |with_reducible refine cr ?_ _ |with_reducible refine dB ?_ (by with_reducible assumption) |with_reducible refine cF ?_ |with_reducible refine cP ?_ _)))
          · ((repeat(first |exact Below.refl _ _ |with_reducible assumption |refine Below.alloc0 ?_ _ |refine Below.step0 ?_ (by with_reducible assumption) |refine Below.step ?_ (by with_reducible assumption) ?_ |refine Below.alloc ?_ ?_ _ |refine Below.drew ?_ |refine bb ?_ _ |refine Below.setCell ?_ ?_ _))<;>(first |omega |exact hsz |exact Below.size (by with_reducible assumption) |(simp;done) |(simp;omega) |(simp at*;omega)))
        case measure=>simp [intOf];omega
    · obtain rfl:k=64:=by omega
      go_wp2
      go_ret
      exact⟨_,rfl,hown,hbw⟩
end Go.Proofs.YtgmkkfdnmdohlaaGreatDoor
