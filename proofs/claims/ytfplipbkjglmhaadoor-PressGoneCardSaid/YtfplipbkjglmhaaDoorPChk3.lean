/-
 The walks of the program's questions whether a press is valid: its weighings.
-/
import Derived.Test.YtfplipbkjglmhaaDoorPChk
namespace Go.Proofs.YtfplipbkjglmhaaDoor
open Go.RowKit
set_option linter.unusedVariables false
set_option linter.unusedSimpArgs false
/-- Two numbers that lie in a block of their own. -/
theorem in2(lo hi x y:Int)(g:Nat)(W:World)(hc:W.cell? ⟨g,0,none⟩=some (.int .i64 x))(hc1:W.cell? ⟨g,1,none⟩=some (.int .i64 y))(hg:g<W.heap.size) :
  Calls Tryd.prog 83 #[.int .i64 lo,.int .i64 hi,.slice (some ⟨g,0,none⟩) 2 2] W fun e w'=>e = .returned (.bool (rng lo hi x && rng lo hi y))∧Below W.heap.size W w':=by
 have h:=in_any lo hi (some ⟨g,0,none⟩) 2 2 [x,y] W (by unfold maxLen;omega) ⟨rfl,fun _=>⟨g,0,rfl,hg,fun j u hu=>by
  match j with
  |0=>simp[ints] at hu;rw[←hu];exact hc
  |1=>simp[ints] at hu;rw[←hu];exact hc1
  |j+2=>simp[ints] at hu⟩⟩
 have e:inB lo hi [x,y]=(rng lo hi x && rng lo hi y):=by simp[inB,rng]
 rwa [e] at h
def okW (ps:List PR) (last:Int) (x:WE):Bool:=rng 1 9999 x.1 && decide (last<x.1) && decide (0≤idxP ps x.2.1) && rng 1 6 x.2.2.1 && rng 0 1000000 x.2.2.2.1 && rng 0 1000000 x.2.2.2.2 && decide (x.2.2.2.1≤x.2.2.2.2)
def allW (ps:List PR):Int→List WE→Bool
 |_,[]=>true
 |last,x::r=>okW ps last x && allW ps x.1 r
theorem drop_at{α:Type}{l:List α}{k:Nat}{x:α}(h:l[k]? = some x):l.drop k=x::l.drop (k+1):=by
 obtain⟨hk,e⟩:=List.getElem?_eq_some_iff.1 h;rw[List.drop_eq_getElem_cons hk,e]
theorem allW_step{ps:List PR}{ws:List WE}{k:Nat}{last:Int}{x:WE}(hx:ws[k]? = some x):allW ps last (ws.drop k)=(okW ps last x && allW ps x.1 (ws.drop (k+1))):=by
 rw[drop_at hx];rfl
theorem rng_last{last x:Int}(h:0≤last):rng (last+1) 9999 x=(rng 1 9999 x && decide (last<x)):=by
 unfold rng;rw[Bool.eq_iff_iff];simp only[Bool.and_eq_true,decide_eq_true_eq];omega
theorem rng_iff{lo hi x:Int}(h:rng lo hi x=true):lo≤x∧x≤hi:=by
 unfold rng at h;simpa using h
theorem okW_eq{ps:List PR}{last N P K L H:Int}(h:0≤last):okW ps last (N,P,K,L,H)=(rng (last+1) 9999 N && decide (0≤idxP ps P) && rng 1 6 K && (rng 0 1000000 L && rng 0 1000000 H) && decide (L≤H)):=by
 rw[rng_last h];unfold okW;simp only[Bool.and_assoc]
set_option maxRecDepth 100000 in
set_option maxHeartbeats 2000000 in
theorem check3_any(A A':Option Addr)(n c n' c':Nat)(ps:List PR)(ws:List WE)(w:World)(hn:n≤10)(hn':n'≤30)(hR:Reads w w.heap.size 4 A n (pgs ps))(hW:Reads w w.heap.size 5 A' n' (wgs ws)) :
  Calls Tryd.prog 139 #[.agg #[.slice A n c,.slice A' n' c']] w fun e w'=>e = .returned (.bool (allW ps 0 ws))∧Below w.heap.size w w':=by
 have hl:=hW.wg_len;have hn0:n≤maxLen:=by unfold maxLen;omega
 have HM:Hid (∀z,Below (w.heap.size+1) (w.alloc (.cells #[.slice A n c,.slice A' n' c'] 25)) z→z.cell? ⟨w.heap.size,0,none⟩=some (.slice A n c)∧z.cell? ⟨w.heap.size,1,none⟩=some (.slice A' n' c')∧w.heap.size+1≤z.heap.size):=fun z hz=>press_box hz;have HR:Hid (∀z,Below (w.heap.size+1) (w.alloc (.cells #[.slice A n c,.slice A' n' c'] 25)) z→Reads z z.heap.size 4 A n (pgs ps)):=fun z hz=>keep_reads hR hz;have HRw:Hid (∀z,Below (w.heap.size+1) (w.alloc (.cells #[.slice A n c,.slice A' n' c'] 25)) z→Reads z z.heap.size 5 A' n' (wgs ws)):=fun z hz=>keep_reads hW hz;have HX:Hid (∀z,Below (w.heap.size+1) (w.alloc (.cells #[.slice A n c,.slice A' n' c'] 25)) z→Below w.heap.size w z):=fun z hz=>box_below hz;have hBx:Hid (Below (w.heap.size+1) (w.alloc (.cells #[.slice A n c,.slice A' n' c'] 25)) (w.alloc (.cells #[.slice A n c,.slice A' n' c'] 25))):=Below.refl _ _;clear hR hW
 go_enter Tryd.func139,Tryd.ntmps139
 go_wp2;generalize w.alloc (.cells #[.slice A n c,.slice A' n' c'] 25)=wb at *;go_loopw [3,9] (fun y x wr=>∃(k:Nat) (last:Int),k≤n'∧x = .int .i64 k∧y = .int .i64 last∧0≤last∧last≤9999∧Hid (allW ps 0 ws=allW ps last (ws.drop k))∧Hid (Below (w.heap.size+1) wb wr)) (fun _ x _=>n' - (intOf x).toNat)
 case atStart=>exact⟨0,0,by omega,rfl,rfl,by omega,by omega,rfl,hBx⟩
 case round=>
  clear hBx;obtain⟨k,last,hk,rfl,rfl,hl0,hl1,hall,hBr⟩:=hrel;obtain⟨m0,m1,hsz⟩:=HM.out wr hBr.out;by_cases hlt:k<n'
  ·obtain⟨b,o,N,P,K,L,H,rfl,hb,hx,c0,c1,c2,c3,c4⟩:=(HRw.out wr hBr.out).wg hlt;have hst:=allW_step (ps:=ps) (last:=last) hx;rw[okW_eq hl0] at hst;have E:=Lib.hid (hall.out.trans hst);have y1:wrap64 (last+1)=last+1:=w64 (by omega) (by omega)
   -- what lies behind the element's box
   have HS0:Hid (∀z,Below (wr.heap.size+1) (wr.alloc (.cells #[.int .i64 N,.int .i64 P,.int .i64 K,.int .i64 L,.int .i64 H] 81)) z→
     ((z.cell? ⟨w.heap.size,0,none⟩=some (.slice A n c)∧z.cell? ⟨w.heap.size,1,none⟩=some (.slice (some ⟨b,o,none⟩) n' c'))∧z.cell? ⟨wr.heap.size,0,none⟩=some (.int .i64 N)∧z.cell? ⟨wr.heap.size,1,none⟩=some (.int .i64 P)∧z.cell? ⟨wr.heap.size,2,none⟩=some (.int .i64 K)∧z.cell? ⟨wr.heap.size,3,none⟩=some (.int .i64 L)∧z.cell? ⟨wr.heap.size,4,none⟩=some (.int .i64 H))∧wr.heap.size+1≤z.heap.size):=by
    intro z hz;have hsz':wr.heap.size+1≤z.heap.size:=(by simpa using hz.size);refine⟨⟨⟨(hz.cell (p:=⟨w.heap.size,0,none⟩) (by simp;omega)).trans ((World.cell?_alloc_lt _ _ _ (by simp;omega)).trans m0),(hz.cell (p:=⟨w.heap.size,1,none⟩) (by simp;omega)).trans ((World.cell?_alloc_lt _ _ _ (by simp;omega)).trans m1)⟩,?_,?_,?_,?_,?_⟩,hsz'⟩
    ·rw[hz.cell (p:=⟨wr.heap.size,0,none⟩) (by simp),World.cell?_alloc_at _ _ _ _ rfl];rfl
    ·rw[hz.cell (p:=⟨wr.heap.size,1,none⟩) (by simp),World.cell?_alloc_at _ _ _ _ rfl];rfl
    ·rw[hz.cell (p:=⟨wr.heap.size,2,none⟩) (by simp),World.cell?_alloc_at _ _ _ _ rfl];rfl
    ·rw[hz.cell (p:=⟨wr.heap.size,3,none⟩) (by simp),World.cell?_alloc_at _ _ _ _ rfl];rfl
    ·rw[hz.cell (p:=⟨wr.heap.size,4,none⟩) (by simp),World.cell?_alloc_at _ _ _ _ rfl];rfl
   have hBz:=Lib.hid (hBr.out.alloc (o:=.cells #[.int .i64 N,.int .i64 P,.int .i64 K,.int .i64 L,.int .i64 H] 81) hsz);have HT0:Hid (∀z,Below (wr.heap.size+1) (wr.alloc (.cells #[.int .i64 N,.int .i64 P,.int .i64 K,.int .i64 L,.int .i64 H] 81)) z→Below (w.heap.size+1) wb z):=fun z hz=>hBz.out.trans (hz.mono (by omega));have hZ0:Hid (Below (wr.heap.size+1) (wr.alloc (.cells #[.int .i64 N,.int .i64 P,.int .i64 K,.int .i64 L,.int .i64 H] 81)) (wr.alloc (.cells #[.int .i64 N,.int .i64 P,.int .i64 K,.int .i64 L,.int .i64 H] 81))):=Below.refl _ _;clear hst hx hall;(go_wp2_with fail);clear m0 m1 c0 c1 c2 c3 c4;have hwzs:(wr.alloc (.cells #[.int .i64 N,.int .i64 P,.int .i64 K,.int .i64 L,.int .i64 H] 81)).heap.size=wr.heap.size+1:=(by simp);generalize wr.alloc (.cells #[.int .i64 N,.int .i64 P,.int .i64 K,.int .i64 L,.int .i64 H] 81)=wz at *;refine(in1 (last+1) 9999 N _ _ (by have:=cellN wz (.int .i64 N) 3;rw[hwzs] at this;exact this) (by simp;omega)).mono ?_;rintro e z1 ⟨rfl,hb1⟩;have hZ1:=Lib.hid (below_in hZ0.out (by omega) hb1);obtain⟨⟨⟨m0,m1⟩,e0,e1,e2,e3,e4⟩,hs1⟩:=HS0.out _ hZ1.out;clear hb1 hZ0 hwzs;cases T1:rng (last+1) 9999 N
   ·have hbad:Hid (allW ps 0 ws=false):=(by show _=_;rw[E.out,T1];simp);clear E;go_wp2;go_ret;exact⟨ret_bool hbad.out.symm,HX.out _ (HT0.out _ hZ1.out)⟩
   ·have hT1:=Lib.hid (rng_iff T1);have H2:=Lib.hid (index_any A (some ⟨b,o,none⟩) n c n' c' ps P z1 hn0 (HR.out _ (HT0.out _ hZ1.out)));(go_wp2_with fail);refine H2.out.mono ?_;rintro e z2 ⟨rfl,hb2⟩;have hZ2:=Lib.hid (below_via hZ1.out hs1 hb2);clear m0 m1 e0 e1 e2 e3 e4;obtain⟨⟨⟨m0,m1⟩,e0,e1,e2,e3,e4⟩,hs2⟩:=HS0.out _ hZ2.out;clear hb2 H2 hZ1;by_cases T2:0≤idxP ps P
    ·have T2':decide (0≤idxP ps P)=true:=(by simpa using T2);have T2'':¬idxP ps P<0:=(by omega);rw[T2'] at E;generalize idxP ps P=jx at *;clear T2 T2';(go_wp2_with fail);refine(in1 1 6 K _ _ (cellN z2 _ _) (by simp)).mono ?_;rintro e z3 ⟨rfl,hb3⟩;have hZ3:=Lib.hid (below_in hZ2.out hs2 hb3);clear m0 m1 e0 e1 e2 e3 e4;obtain⟨⟨⟨m0,m1⟩,e0,e1,e2,e3,e4⟩,hs3⟩:=HS0.out _ hZ3.out;clear hb3 hZ2;cases T3:rng 1 6 K
     ·have hbad:Hid (allW ps 0 ws=false):=(by show _=_;rw[E.out,T3];simp);clear E;go_wp2;go_ret;exact⟨ret_bool hbad.out.symm,HX.out _ (HT0.out _ hZ3.out)⟩
     ·(go_wp2_with fail);refine(in2 0 1000000 L H _ _ (by rw[World.cell?_alloc_at _ _ _ _ rfl];rfl) (by rw[World.cell?_alloc_at _ _ _ _ rfl];rfl) (by simp)).mono ?_;rintro e z4 ⟨rfl,hb4⟩;have hZ4:=Lib.hid (below_in hZ3.out hs3 hb4);clear m0 m1 e0 e1 e2 e3 e4;obtain⟨⟨⟨m0,m1⟩,e0,e1,e2,e3,e4⟩,hs4⟩:=HS0.out _ hZ4.out;clear hb4 hZ3;cases T4:(rng 0 1000000 L && rng 0 1000000 H)
      ·have hbad:Hid (allW ps 0 ws=false):=(by show _=_;rw[E.out,T4];simp);clear E;go_wp2;go_ret;exact⟨ret_bool hbad.out.symm,HX.out _ (HT0.out _ hZ4.out)⟩
      ·by_cases T5:L≤H
       ·have T5':¬H<L:=(by omega);have hok:Hid (allW ps 0 ws=allW ps N (ws.drop (k+1))):=by
         show _=_;rw[E.out,T1,T3,T4,show decide (L≤H)=true by simpa using T5];simp
        obtain⟨g1,g2⟩:=hT1.out;clear E T5;go_wp2;go_roundw
        case rel=>exact⟨k+1,N,by omega,by go_num,rfl,by omega,by omega,hok,HT0.out _ hZ4.out⟩
        case measure=>simp[intOf];omega
       ·have T5':H<L:=(by omega);have hbad:Hid (allW ps 0 ws=false):=(by show _=_;rw[E.out,show decide (L≤H)=false by simpa using T5];simp);clear E T5;go_wp2;go_ret;exact⟨ret_bool hbad.out.symm,HX.out _ (HT0.out _ hZ4.out)⟩
    ·have T2':decide (0≤idxP ps P)=false:=(by simpa using T2);have T2'':idxP ps P<0:=(by omega);have hbad:Hid (allW ps 0 ws=false):=(by show _=_;rw[E.out,T2'];simp);generalize idxP ps P=jx at *;clear T2 T2' E;go_wp2;go_ret;exact⟨ret_bool hbad.out.symm,HX.out _ (HT0.out _ hZ2.out)⟩
  ·have hfin:Hid (allW ps 0 ws=true):=by
    have:=hall.out;rw[List.drop_eq_nil_of_le (by omega)] at this;exact this
   clear hall m0 m1;go_wp2;go_ret;exact⟨ret_bool hfin.out.symm,HX.out _ hBr.out⟩
end Go.Proofs.YtfplipbkjglmhaaDoor
