/-
 The walks of the program's questions whether a press is valid: its pressings.
-/
import Derived.Test.YtfplipbkjglmhaaDoorTk
import Derived.Test.YtfplipbkjglmhaaDoorPRec
namespace Go.Proofs.YtfplipbkjglmhaaDoor
open Go.RowKit
set_option linter.unusedVariables false
set_option linter.unusedSimpArgs false
def rng (lo hi x:Int):Bool:=decide (lo≤x) && decide (x≤hi)
/-- One number that lies in a block of its own. -/
theorem in1(lo hi x:Int)(g:Nat)(W:World)(hc:W.cell? ⟨g,0,none⟩=some (.int .i64 x))(hg:g<W.heap.size) :
  Calls Tryd.prog 83 #[.int .i64 lo,.int .i64 hi,.slice (some ⟨g,0,none⟩) 1 1] W fun e w'=>e = .returned (.bool (rng lo hi x))∧Below W.heap.size W w':=by
 have h:=in_any lo hi (some ⟨g,0,none⟩) 1 1 [x] W (by unfold maxLen;omega) ⟨rfl,fun _=>⟨g,0,rfl,hg,fun j u hu=>by
  cases j with
  |zero=>simp[ints] at hu;rw[←hu];exact hc
  |succ j=>simp[ints] at hu⟩⟩
 have e:inB lo hi [x]=rng lo hi x:=by simp[inB,rng]
 rwa [e] at h
/-- A pressing against the one ahead of it. -/
def okPrev (ps:List PR):Nat→PR→Bool
 |0,_=>true
 |j+1,x=>match ps[j]? with
  |some y=>decide (y.1<x.1) && decide (y.2.1≤x.2.1)
  |none=>true
def okTo (ps:List PR) (i:Nat) (x:PR):Bool:=decide (x.2.2.2=0) || decide ((i:Int)<idxP ps x.2.2.2)
def okP (ps:List PR) (i:Nat) (x:PR):Bool:=rng 1 9999 x.1 && rng 0 3652 x.2.1 && rng 1 6 x.2.2.1 && okPrev ps i x && okTo ps i x
def allP (ps:List PR):Bool:=(List.range ps.length).all fun i=>match ps[i]? with|some x=>okP ps i x|none=>true
theorem okPrev_zero{ps:List PR}{x:PR}:okPrev ps 0 x=true:=rfl
theorem okPrev_succ{ps:List PR}{k:Nat}{I D P T I' D' P' T':Int}(hy:ps[k]? = some (I',D',P',T'))(h1:¬I≤I')(h2:¬D<D'):okPrev ps (k+1) (I,D,P,T)=true:=by
 simp only[okPrev,hy,Bool.and_eq_true,decide_eq_true_eq];omega
theorem okP_prev{ps:List PR}{k:Nat}{I D P T I' D' P' T':Int}(hy:ps[k]? = some (I',D',P',T'))(h:I≤I'∨D<D'):okP ps (k+1) (I,D,P,T)=false:=by
 have:okPrev ps (k+1) (I,D,P,T)=false:=by
  simp only[okPrev,hy,Bool.and_eq_false_iff,decide_eq_false_iff_not];omega
 simp[okP,this]
theorem okP_to{ps:List PR}{k:Nat}{I D P T:Int}(h:T≠0)(h':idxP ps T≤(k:Int)):okP ps k (I,D,P,T)=false:=by
 have:okTo ps k (I,D,P,T)=false:=by
  simp only[okTo,Bool.or_eq_false_iff,decide_eq_false_iff_not];exact⟨h,by omega⟩
 simp[okP,this]
theorem okTo_zero{ps:List PR}{k:Nat}{I D P T:Int}(h:T=0):okTo ps k (I,D,P,T)=true:=by simp[okTo,h]
theorem okTo_idx{ps:List PR}{k:Nat}{I D P T:Int}(h':¬idxP ps T≤(k:Int)):okTo ps k (I,D,P,T)=true:=by
 simp only[okTo,Bool.or_eq_true,decide_eq_true_eq];right;omega
theorem allP_false{ps:List PR}{k:Nat}{x:PR}(hx:ps[k]? = some x)(h:okP ps k x=false):allP ps=false:=by
 unfold allP;rw[List.all_eq_false];refine⟨k,List.mem_range.2 (List.getElem?_eq_some_iff.1 hx).1,?_⟩;rw[hx];simp[h]
theorem allP_true{ps:List PR}(h:∀(i:Nat) (x:PR),ps[i]? = some x→okP ps i x=true):allP ps=true:=by
 unfold allP;rw[List.all_eq_true];intro i hi;cases hx:ps[i]? with
 |none=>rfl
 |some x=>exact h i x hx
theorem allP_next{ps:List PR}{k:Nat}{x:PR}(h:∀(i:Nat) (y:PR),i<k→ps[i]? = some y→okP ps i y=true)(hx:ps[k]? = some x)(hok:okP ps k x=true):∀(i:Nat) (y:PR),i<k+1→ps[i]? = some y→okP ps i y=true:=by
 intro i y hi hy;by_cases hik:i=k
 ·subst hik;rw[hx] at hy;cases hy;exact hok
 ·exact h i y (by omega) hy
theorem pw1{k:Nat}(h:k≤4096):wrap64 (((k+1:Nat):Int) - 1)=k:=by rw[w64 (by omega) (by omega)];omega
theorem pw2{k:Nat}(h:k≤4096):IntKind.i64.wrap (((k+1:Nat):Int) - 1)=k:=by rw[IntWalk.i64_in _ (by omega)];omega
theorem pw3{k:Nat}(h:k≤4096):IntKind.i64.wrap (k:Int)=k:=IntWalk.i64_in _ (by omega)
theorem pw4{k:Nat}(h:k≤4096):wrap64 (k:Int)=k:=w64 (by omega) (by omega)
set_option maxRecDepth 100000 in
set_option maxHeartbeats 4000000 in
theorem check2_any(A A':Option Addr)(n c n' c':Nat)(ps:List PR)(w:World)(hn:n≤10)(hR:Reads w w.heap.size 4 A n (pgs ps)) :
  Calls Tryd.prog 138 #[.agg #[.slice A n c,.slice A' n' c']] w fun e w'=>e = .returned (.bool (allP ps))∧Below w.heap.size w w':=by
 have hl:=hR.pg_len;have hn0:n≤maxLen:=by unfold maxLen;omega
 have hB0:Hid (Below w.heap.size w (w.alloc (.cells #[.slice A n c,.slice A' n' c'] 25))):=(Below.refl _ _).alloc (Nat.le_refl _) _;have HM:Hid (∀z,Below (w.heap.size+1) (w.alloc (.cells #[.slice A n c,.slice A' n' c'] 25)) z→z.cell? ⟨w.heap.size,0,none⟩=some (.slice A n c)∧z.cell? ⟨w.heap.size,1,none⟩=some (.slice A' n' c')∧w.heap.size+1≤z.heap.size):=fun z hz=>press_box hz;have HR:Hid (∀z,Below (w.heap.size+1) (w.alloc (.cells #[.slice A n c,.slice A' n' c'] 25)) z→Reads z z.heap.size 4 A n (pgs ps)):=fun z hz=>keep_reads hR hz;have HZ9:Hid (∀z,Below (w.heap.size+1) (w.alloc (.cells #[.slice A n c,.slice A' n' c'] 25)) z→w.heap.size+1≤z.heap.size):=fun z hz=>(press_box hz).2.2
 have hBx:Hid (Below (w.heap.size+1) (w.alloc (.cells #[.slice A n c,.slice A' n' c'] 25)) (w.alloc (.cells #[.slice A n c,.slice A' n' c'] 25))):=Below.refl _ _;clear hR
 go_enter Tryd.func138,Tryd.ntmps138
 go_wp2;generalize w.alloc (.cells #[.slice A n c,.slice A' n' c'] 25)=wb at *;go_loopw [8] (fun x wr=>∃k:Nat,k≤n∧x = .int .i64 k∧Hid (∀(i:Nat) (y:PR),i<k→ps[i]? = some y→okP ps i y=true)∧Hid (Below (w.heap.size+1) wb wr)) (fun x _=>n - (intOf x).toNat)
 case atStart=>exact⟨0,by omega,rfl,fun i y h=>absurd h (by omega),hBx⟩
 case round=>
  clear hBx;obtain⟨k,hk,rfl,hall,hBr⟩:=hrel;obtain⟨m0,m1,hsz⟩:=HM.out wr hBr.out;by_cases hlt:k<n
  ·obtain⟨b,o,I,D,P,T,rfl,hb,hx,c0,c1,c2,c3⟩:=(HR.out wr hBr.out).pg hlt;have Hx:=Lib.hid hx;clear hx HM;rcases k with _|k
   ·rw[show ((0:Nat):Int)=0 from rfl];simp only[Nat.zero_mul,Nat.add_zero] at c0 c1 c2 c3;have HS0:Hid (∀z,Below (wr.heap.size+1) (wr.alloc (.cells #[.int .i64 I,.int .i64 D,.int .i64 P,.int .i64 T] 51)) z→(z.cell? ⟨w.heap.size,0,none⟩=some (.slice (some ⟨b,o,none⟩) n c)∧z.cell? ⟨w.heap.size,1,none⟩=some (.slice A' n' c')∧z.cell? ⟨wr.heap.size,0,none⟩=some (.int .i64 I)∧z.cell? ⟨wr.heap.size,1,none⟩=some (.int .i64 D)∧z.cell? ⟨wr.heap.size,2,none⟩=some (.int .i64 P)∧z.cell? ⟨wr.heap.size,3,none⟩=some (.int .i64 T)∧Hid (Below (wr.heap.size+1) (wr.alloc (.cells #[.int .i64 I,.int .i64 D,.int .i64 P,.int .i64 T] 51)) z))):=by
     intro z hz;refine⟨(hz.cell (p:=⟨w.heap.size,0,none⟩) (by simp;omega)).trans ((World.cell?_alloc_lt _ _ _ (by simp;omega)).trans m0),(hz.cell (p:=⟨w.heap.size,1,none⟩) (by simp;omega)).trans ((World.cell?_alloc_lt _ _ _ (by simp;omega)).trans m1),?_,?_,?_,?_,hz⟩
     ·rw[hz.cell (p:=⟨wr.heap.size,0,none⟩) (by simp),World.cell?_alloc_at _ _ _ _ rfl];rfl
     ·rw[hz.cell (p:=⟨wr.heap.size,1,none⟩) (by simp),World.cell?_alloc_at _ _ _ _ rfl];rfl
     ·rw[hz.cell (p:=⟨wr.heap.size,2,none⟩) (by simp),World.cell?_alloc_at _ _ _ _ rfl];rfl
     ·rw[hz.cell (p:=⟨wr.heap.size,3,none⟩) (by simp),World.cell?_alloc_at _ _ _ _ rfl];rfl
    have HZ:Hid (wr.heap.size+1≤(wr.alloc (.cells #[.int .i64 I,.int .i64 D,.int .i64 P,.int .i64 T] 51)).heap.size):=(by show _≤_;simp);have hBz:=Lib.hid (hBr.out.alloc (o:=.cells #[.int .i64 I,.int .i64 D,.int .i64 P,.int .i64 T] 51) hsz)
    skip
    (go_wp2_with fail);clear m0 m1 c0 c1 c2 c3;generalize (wr.alloc (.cells #[.int .i64 I,.int .i64 D,.int .i64 P,.int .i64 T] 51))=wz at *;have HS:=HS0;clear HS0;have HP:Hid (∀z,(z.cell? ⟨w.heap.size,0,none⟩=some (.slice (some ⟨b,o,none⟩) n c)∧z.cell? ⟨w.heap.size,1,none⟩=some (.slice A' n' c')∧z.cell? ⟨wr.heap.size,0,none⟩=some (.int .i64 I)∧z.cell? ⟨wr.heap.size,1,none⟩=some (.int .i64 D)∧z.cell? ⟨wr.heap.size,2,none⟩=some (.int .i64 P)∧z.cell? ⟨wr.heap.size,3,none⟩=some (.int .i64 T)∧Hid (Below (wr.heap.size+1) wz z))→Hid (Below (wr.heap.size+1) wz z)):=fun z h=>h.2.2.2.2.2.2;have HW:Hid (∀z,Hid (Below (wr.heap.size+1) wz z)→Below (w.heap.size+1) wb z):=fun z h=>hBz.out.trans (h.out.mono (by omega));refine wp_region_held_drew (S:=(fun z=>z.cell? ⟨w.heap.size,0,none⟩=some (.slice (some ⟨b,o,none⟩) n c)∧z.cell? ⟨w.heap.size,1,none⟩=some (.slice A' n' c')∧z.cell? ⟨wr.heap.size,0,none⟩=some (.int .i64 I)∧z.cell? ⟨wr.heap.size,1,none⟩=some (.int .i64 D)∧z.cell? ⟨wr.heap.size,2,none⟩=some (.int .i64 P)∧z.cell? ⟨wr.heap.size,3,none⟩=some (.int .i64 T)∧Hid (Below (wr.heap.size+1) wz z))) (by kernel_rfl) ?_ (fun hHeld=>?_)
    ·exact HS.out _ (Below.refl _ _).drew
    refine tY (v:=?_) 0 13 ?_ ?_;rotate_left
    ·intro w hSw;(try dsimp only at hSw);go_simp;(try with_reducible rfl)
    (try simp only[N0]);refine tY (v:=?_) 1 14 ?_ ?_;rotate_left
    ·intro w hSw;(try dsimp only at hSw);go_simp;(try with_reducible rfl)
    (try simp only[N0]);refine wpAnyH_ready (rs:=[2]) (by kernel_rfl) (by simp) ?_;refine AllReadyH.cons (o:=_) rfl (fun K hK=>?_) AllReadyH.nil;go_simp;refine hK.out _ _ ?_ (fun hHeld=>?_)
    ·first|exact HS.out _ (keepAd (HP.out _ (by assumption)) HZ _)|exact HS.out _ (keepA (HP.out _ (by assumption)) HZ _)|exact HS.out _ (keepC (HP.out _ (by assumption)) HZ (by assumption))
    clear hK K;(try simp only[N0]);refine wpAnyH_ready (rs:=[3]) (by kernel_rfl) (by simp) ?_;refine AllReadyH.cons (o:=_) rfl (fun K hK=>?_) AllReadyH.nil;go_simp;refine(in1 1 9999 I _ _ (by first|exact cellNd _ _ _|exact cellN _ _ _) (by simp)).mono ?_;rintro e w' ⟨rfl,hb'⟩;have HB':=Lib.hid hb';clear hb';(try go_simp);refine hK.out _ _ ?_ (fun hHeld=>?_)
    ·first|exact HS.out _ (keepAd (HP.out _ (by assumption)) HZ _)|exact HS.out _ (keepA (HP.out _ (by assumption)) HZ _)|exact HS.out _ (keepC (HP.out _ (by assumption)) HZ (by assumption))
    clear hK K;(try simp only[N0]);cases T1:rng 1 9999 I
    ·refine tY (v:=?_) 4 17 ?_ ?_;rotate_left
     ·intro w hSw;(try dsimp only at hSw);go_simp;(try with_reducible rfl)
     (try simp only[N0]);refine tY (v:=?_) 5 18 ?_ ?_;rotate_left
     ·intro w hSw;(try dsimp only at hSw);go_simp;(try with_reducible rfl)
     (try simp only[N0]);refine tN 6 19 ?_;(try simp only[N0]);refine tN 7 20 ?_;(try simp only[N0]);refine tN 8 21 ?_;(try simp only[N0]);refine tN 9 22 ?_;(try simp only[N0]);refine tN 10 23 ?_;(try simp only[N0]);refine tY (v:=?_) 11 24 ?_ ?_;rotate_left
     ·intro w hSw;(try dsimp only at hSw);go_simp;(try with_reducible rfl)
     (try simp only[N0]);refine tY (v:=?_) 12 25 ?_ ?_;rotate_left
     ·intro w hSw;(try dsimp only at hSw);go_simp;(try with_reducible rfl)
     (try simp only[N0]);refine tN 13 26 ?_;(try simp only[N0]);refine tN 14 27 ?_;(try simp only[N0]);refine tN 15 28 ?_;(try simp only[N0]);refine tN 16 29 ?_;(try simp only[N0]);refine tN 17 30 ?_;(try simp only[N0]);refine tY (v:=?_) 18 31 ?_ ?_;rotate_left
     ·intro w hSw;(try dsimp only at hSw);go_simp;(try with_reducible rfl)
     (try simp only[N0]);refine tY (v:=?_) 19 32 ?_ ?_;rotate_left
     ·intro w hSw;(try dsimp only at hSw);go_simp;(try with_reducible rfl)
     (try simp only[N0]);refine tN 20 33 ?_;(try simp only[N0]);refine tN 21 34 ?_;(try simp only[N0]);refine tN 22 35 ?_;(try simp only[N0]);refine tN 23 36 ?_;(try simp only[N0]);refine tN 24 37 ?_;(try simp only[N0]);refine tN 25 38 ?_;(try simp only[N0]);refine tN 26 39 ?_;(try simp only[N0]);refine tN 27 40 ?_;(try simp only[N0]);refine tN 28 41 ?_;(try simp only[N0]);refine tN 29 42 ?_;(try simp only[N0]);refine tN 30 43 ?_;(try simp only[N0]);refine tN 31 44 ?_;(try simp only[N0]);refine tN 32 45 ?_;(try simp only[N0]);refine tN 33 46 ?_;(try simp only[N0]);refine tN 34 47 ?_;(try simp only[N0]);refine tN 35 48 ?_;(try simp only[N0]);refine tN 36 49 ?_;(try simp only[N0]);refine tN 37 50 ?_;(try simp only[N0]);refine tN 38 51 ?_;(try simp only[N0]);refine tN 39 52 ?_;(try simp only[N0]);refine tN 40 53 ?_;(try simp only[N0]);refine tN 41 54 ?_;(try simp only[N0]);refine tN 42 55 ?_;(try simp only[N0]);refine tN 43 56 ?_;(try simp only[N0]);refine tN 44 57 ?_;(try simp only[N0]);refine tN 45 58 ?_;(try simp only[N0]);refine tY (v:=?_) 46 59 ?_ ?_;rotate_left
     ·intro w hSw;(try dsimp only at hSw);go_simp;(try with_reducible rfl)
     (try simp only[N0]);refine wpAnyH_done (by kernel_rfl) ?_ _;have hbad:Hid (allP ps=false):=allP_false Hx.out (by simp[okP,T1]);clear hall;go_wp2;go_ret;exact⟨ret_bool hbad.out.symm,hB0.out.trans ((HW.out _ (HP.out _ (by assumption))).mono (by omega))⟩
    ·refine tY (v:=?_) 4 17 ?_ ?_;rotate_left
     ·intro w hSw;(try dsimp only at hSw);go_simp;(try with_reducible rfl)
     (try simp only[N0]);refine tY (v:=?_) 5 18 ?_ ?_;rotate_left
     ·intro w hSw;(try dsimp only at hSw);go_simp;(try with_reducible rfl)
     (try simp only[N0]);refine tY (v:=?_) 6 19 ?_ ?_;rotate_left
     ·intro w hSw;(try dsimp only at hSw);go_simp;(try with_reducible rfl)
     (try simp only[N0]);refine tY (v:=?_) 7 20 ?_ ?_;rotate_left
     ·intro w hSw;(try dsimp only at hSw);go_simp;(try with_reducible rfl)
     (try simp only[N0]);refine wpAnyH_ready (rs:=[8]) (by kernel_rfl) (by simp) ?_;refine AllReadyH.cons (o:=_) rfl (fun K hK=>?_) AllReadyH.nil;go_simp;refine hK.out _ _ ?_ (fun hHeld=>?_)
     ·first|exact HS.out _ (keepAd (HP.out _ (by assumption)) HZ _)|exact HS.out _ (keepA (HP.out _ (by assumption)) HZ _)|exact HS.out _ (keepC (HP.out _ (by assumption)) HZ (by assumption))
     clear hK K;(try simp only[N0]);refine wpAnyH_ready (rs:=[9]) (by kernel_rfl) (by simp) ?_;refine AllReadyH.cons (o:=_) rfl (fun K hK=>?_) AllReadyH.nil;go_simp;refine(in1 0 3652 D _ _ (by first|exact cellNd _ _ _|exact cellN _ _ _) (by simp)).mono ?_;rintro e w' ⟨rfl,hb'⟩;have HB':=Lib.hid hb';clear hb';(try go_simp);refine hK.out _ _ ?_ (fun hHeld=>?_)
     ·first|exact HS.out _ (keepAd (HP.out _ (by assumption)) HZ _)|exact HS.out _ (keepA (HP.out _ (by assumption)) HZ _)|exact HS.out _ (keepC (HP.out _ (by assumption)) HZ (by assumption))
     clear hK K;(try simp only[N0]);cases T2:rng 0 3652 D
     ·refine tY (v:=?_) 10 23 ?_ ?_;rotate_left
      ·intro w hSw;(try dsimp only at hSw);go_simp;(try with_reducible rfl)
      (try simp only[N0]);refine tY (v:=?_) 11 24 ?_ ?_;rotate_left
      ·intro w hSw;(try dsimp only at hSw);go_simp;(try with_reducible rfl)
      (try simp only[N0]);refine tY (v:=?_) 12 25 ?_ ?_;rotate_left
      ·intro w hSw;(try dsimp only at hSw);go_simp;(try with_reducible rfl)
      (try simp only[N0]);refine tN 13 26 ?_;(try simp only[N0]);refine tN 14 27 ?_;(try simp only[N0]);refine tN 15 28 ?_;(try simp only[N0]);refine tN 16 29 ?_;(try simp only[N0]);refine tN 17 30 ?_;(try simp only[N0]);refine tY (v:=?_) 18 31 ?_ ?_;rotate_left
      ·intro w hSw;(try dsimp only at hSw);go_simp;(try with_reducible rfl)
      (try simp only[N0]);refine tY (v:=?_) 19 32 ?_ ?_;rotate_left
      ·intro w hSw;(try dsimp only at hSw);go_simp;(try with_reducible rfl)
      (try simp only[N0]);refine tN 20 33 ?_;(try simp only[N0]);refine tN 21 34 ?_;(try simp only[N0]);refine tN 22 35 ?_;(try simp only[N0]);refine tN 23 36 ?_;(try simp only[N0]);refine tN 24 37 ?_;(try simp only[N0]);refine tN 25 38 ?_;(try simp only[N0]);refine tN 26 39 ?_;(try simp only[N0]);refine tN 27 40 ?_;(try simp only[N0]);refine tN 28 41 ?_;(try simp only[N0]);refine tN 29 42 ?_;(try simp only[N0]);refine tN 30 43 ?_;(try simp only[N0]);refine tN 31 44 ?_;(try simp only[N0]);refine tN 32 45 ?_;(try simp only[N0]);refine tN 33 46 ?_;(try simp only[N0]);refine tN 34 47 ?_;(try simp only[N0]);refine tN 35 48 ?_;(try simp only[N0]);refine tN 36 49 ?_;(try simp only[N0]);refine tN 37 50 ?_;(try simp only[N0]);refine tN 38 51 ?_;(try simp only[N0]);refine tN 39 52 ?_;(try simp only[N0]);refine tN 40 53 ?_;(try simp only[N0]);refine tN 41 54 ?_;(try simp only[N0]);refine tN 42 55 ?_;(try simp only[N0]);refine tN 43 56 ?_;(try simp only[N0]);refine tN 44 57 ?_;(try simp only[N0]);refine tN 45 58 ?_;(try simp only[N0]);refine tY (v:=?_) 46 59 ?_ ?_;rotate_left
      ·intro w hSw;(try dsimp only at hSw);go_simp;(try with_reducible rfl)
      (try simp only[N0]);refine wpAnyH_done (by kernel_rfl) ?_ _;have hbad:Hid (allP ps=false):=allP_false Hx.out (by simp[okP,T2]);clear hall;go_wp2;go_ret;exact⟨ret_bool hbad.out.symm,hB0.out.trans ((HW.out _ (HP.out _ (by assumption))).mono (by omega))⟩
     ·refine tY (v:=?_) 10 23 ?_ ?_;rotate_left
      ·intro w hSw;(try dsimp only at hSw);go_simp;(try with_reducible rfl)
      (try simp only[N0]);refine tY (v:=?_) 11 24 ?_ ?_;rotate_left
      ·intro w hSw;(try dsimp only at hSw);go_simp;(try with_reducible rfl)
      (try simp only[N0]);refine tY (v:=?_) 12 25 ?_ ?_;rotate_left
      ·intro w hSw;(try dsimp only at hSw);go_simp;(try with_reducible rfl)
      (try simp only[N0]);refine tY (v:=?_) 13 26 ?_ ?_;rotate_left
      ·intro w hSw;(try dsimp only at hSw);go_simp;(try with_reducible rfl)
      (try simp only[N0]);refine tY (v:=?_) 14 27 ?_ ?_;rotate_left
      ·intro w hSw;(try dsimp only at hSw);go_simp;(try with_reducible rfl)
      (try simp only[N0]);refine wpAnyH_ready (rs:=[15]) (by kernel_rfl) (by simp) ?_;refine AllReadyH.cons (o:=_) rfl (fun K hK=>?_) AllReadyH.nil;go_simp;refine hK.out _ _ ?_ (fun hHeld=>?_)
      ·first|exact HS.out _ (keepAd (HP.out _ (by assumption)) HZ _)|exact HS.out _ (keepA (HP.out _ (by assumption)) HZ _)|exact HS.out _ (keepC (HP.out _ (by assumption)) HZ (by assumption))
      clear hK K;(try simp only[N0]);refine wpAnyH_ready (rs:=[16]) (by kernel_rfl) (by simp) ?_;refine AllReadyH.cons (o:=_) rfl (fun K hK=>?_) AllReadyH.nil;go_simp;refine(in1 1 6 P _ _ (by first|exact cellNd _ _ _|exact cellN _ _ _) (by simp)).mono ?_;rintro e w' ⟨rfl,hb'⟩;have HB':=Lib.hid hb';clear hb';(try go_simp);refine hK.out _ _ ?_ (fun hHeld=>?_)
      ·first|exact HS.out _ (keepAd (HP.out _ (by assumption)) HZ _)|exact HS.out _ (keepA (HP.out _ (by assumption)) HZ _)|exact HS.out _ (keepC (HP.out _ (by assumption)) HZ (by assumption))
      clear hK K;(try simp only[N0]);cases T3:rng 1 6 P
      ·refine tY (v:=?_) 17 30 ?_ ?_;rotate_left
       ·intro w hSw;(try dsimp only at hSw);go_simp;(try with_reducible rfl)
       (try simp only[N0]);refine tY (v:=?_) 18 31 ?_ ?_;rotate_left
       ·intro w hSw;(try dsimp only at hSw);go_simp;(try with_reducible rfl)
       (try simp only[N0]);refine tY (v:=?_) 19 32 ?_ ?_;rotate_left
       ·intro w hSw;(try dsimp only at hSw);go_simp;(try with_reducible rfl)
       (try simp only[N0]);refine tN 20 33 ?_;(try simp only[N0]);refine tN 21 34 ?_;(try simp only[N0]);refine tN 22 35 ?_;(try simp only[N0]);refine tN 23 36 ?_;(try simp only[N0]);refine tN 24 37 ?_;(try simp only[N0]);refine tN 25 38 ?_;(try simp only[N0]);refine tN 26 39 ?_;(try simp only[N0]);refine tN 27 40 ?_;(try simp only[N0]);refine tN 28 41 ?_;(try simp only[N0]);refine tN 29 42 ?_;(try simp only[N0]);refine tN 30 43 ?_;(try simp only[N0]);refine tN 31 44 ?_;(try simp only[N0]);refine tN 32 45 ?_;(try simp only[N0]);refine tN 33 46 ?_;(try simp only[N0]);refine tN 34 47 ?_;(try simp only[N0]);refine tN 35 48 ?_;(try simp only[N0]);refine tN 36 49 ?_;(try simp only[N0]);refine tN 37 50 ?_;(try simp only[N0]);refine tN 38 51 ?_;(try simp only[N0]);refine tN 39 52 ?_;(try simp only[N0]);refine tN 40 53 ?_;(try simp only[N0]);refine tN 41 54 ?_;(try simp only[N0]);refine tN 42 55 ?_;(try simp only[N0]);refine tN 43 56 ?_;(try simp only[N0]);refine tN 44 57 ?_;(try simp only[N0]);refine tN 45 58 ?_;(try simp only[N0]);refine tY (v:=?_) 46 59 ?_ ?_;rotate_left
       ·intro w hSw;(try dsimp only at hSw);go_simp;(try with_reducible rfl)
       (try simp only[N0]);refine wpAnyH_done (by kernel_rfl) ?_ _;have hbad:Hid (allP ps=false):=allP_false Hx.out (by simp[okP,T3]);clear hall;go_wp2;go_ret;exact⟨ret_bool hbad.out.symm,hB0.out.trans ((HW.out _ (HP.out _ (by assumption))).mono (by omega))⟩
      ·refine tY (v:=?_) 17 30 ?_ ?_;rotate_left
       ·intro w hSw;(try dsimp only at hSw);go_simp;(try with_reducible rfl)
       (try simp only[N0]);refine tY (v:=?_) 18 31 ?_ ?_;rotate_left
       ·intro w hSw;(try dsimp only at hSw);go_simp;(try with_reducible rfl)
       (try simp only[N0]);refine tY (v:=?_) 19 32 ?_ ?_;rotate_left
       ·intro w hSw;(try dsimp only at hSw);go_simp;(try with_reducible rfl)
       (try simp only[N0]);refine tY (v:=?_) 20 33 ?_ ?_;rotate_left
       ·intro w hSw;(try dsimp only at hSw);go_simp;(try with_reducible rfl)
       (try simp only[N0]);refine tY (v:=?_) 21 34 ?_ ?_;rotate_left
       ·intro w hSw;(try dsimp only at hSw);go_simp;(try with_reducible rfl)
       (try simp only[N0]);refine tY (v:=?_) 22 35 ?_ ?_;rotate_left
       ·intro w hSw;(try dsimp only at hSw);go_simp;(try with_reducible rfl)
       (try simp only[N0]);refine tN 23 36 ?_;(try simp only[N0]);refine tN 24 37 ?_;(try simp only[N0]);refine tN 25 38 ?_;(try simp only[N0]);refine tN 26 39 ?_;(try simp only[N0]);refine tN 27 40 ?_;(try simp only[N0]);refine tN 28 41 ?_;(try simp only[N0]);refine tN 29 42 ?_;(try simp only[N0]);refine tN 30 43 ?_;(try simp only[N0]);refine tN 31 44 ?_;(try simp only[N0]);refine tN 32 45 ?_;(try simp only[N0]);refine tN 33 46 ?_;(try simp only[N0]);refine tN 34 47 ?_;(try simp only[N0]);refine tN 35 48 ?_;(try simp only[N0]);refine tN 36 49 ?_;(try simp only[N0]);refine tN 37 50 ?_;(try simp only[N0]);refine tN 38 51 ?_;(try simp only[N0]);refine tN 39 52 ?_;(try simp only[N0]);refine tN 40 53 ?_;(try simp only[N0]);refine tN 41 54 ?_;(try simp only[N0]);refine tN 42 55 ?_;(try simp only[N0]);refine tN 43 56 ?_;(try simp only[N0]);refine tN 44 57 ?_;(try simp only[N0]);refine tY (v:=?_) 45 58 ?_ ?_;rotate_left
       ·intro w hSw;(try dsimp only at hSw);go_simp;(try with_reducible rfl)
       (try simp only[N0]);refine tY (v:=?_) 46 59 ?_ ?_;rotate_left
       ·intro w hSw;(try dsimp only at hSw);go_simp;(try with_reducible rfl)
       (try simp only[N0]);refine wpAnyH_done (by kernel_rfl) ?_ _;have hpv:Hid (okPrev ps 0 (I,D,P,T)=true):=okPrev_zero;have HB9:=Lib.hid (HW.out _ (HP.out _ (by assumption)));obtain⟨r0,r1,r2,r3,r4,r5,-⟩:=hHeld;by_cases hT:T=0
       ·have hok:Hid (okP ps 0 (I,D,P,T)=true):=by
         show _=_;simp only[okP,okTo_zero hT,T1,T2,T3,hpv.out,Bool.and_self]
        have hnx:=Lib.hid (allP_next hall.out Hx.out hok.out);have hT':(T != 0)=false:=(by simpa using hT);clear hall r0 r1 r2 r3;go_wp2;go_roundw
        case rel=>exact⟨_,by omega,by go_num,hnx,HB9⟩
        case measure=>simp[intOf];omega
       ·have hT':(T != 0)=true:=(by simpa using hT);have H6:=Lib.hid (index_any _ A' n c n' c' ps T _ hn0 (HR.out _ HB9.out));obtain⟨j0,j1⟩:=idxP_bound ps T;by_cases hj:idxP ps T≤((0:Nat):Int)
        ·have hbad:Hid (allP ps=false):=allP_false Hx.out (okP_to hT hj);generalize idxP ps T=jx at *;clear hall r2 r3 r4;(go_wp2_with fail);refine H6.out.mono ?_;rintro e w6 ⟨rfl,hb6⟩;have HB6:=Lib.hid (below_via HB9.out (HZ9.out _ HB9.out) hb6);clear hb6;go_wp2;go_ret;exact⟨ret_bool hbad.out.symm,hB0.out.trans (HB6.out.mono (by omega))⟩
        ·have hok:Hid (okP ps 0 (I,D,P,T)=true):=by
          show _=_;simp only[okP,okTo_idx hj,T1,T2,T3,hpv.out,Bool.and_self]
         have hnx:=Lib.hid (allP_next hall.out Hx.out hok.out);generalize idxP ps T=jx at *;clear hall r2 r3 r4;(go_wp2_with fail);refine H6.out.mono ?_;rintro e w6 ⟨rfl,hb6⟩;have HB6:=Lib.hid (below_via HB9.out (HZ9.out _ HB9.out) hb6);clear hb6;go_wp2;go_roundw
         case rel=>exact⟨_,by omega,by go_num,hnx,HB6⟩
         case measure=>simp[intOf];omega
   ·obtain⟨b2,o2,I',D',P',T',e2,hb2,hy,y0,y1,-,-⟩:=(HR.out wr hBr.out).pg (k:=k) (by omega);simp only[Option.some.injEq,Addr.mk.injEq,and_true] at e2;obtain⟨rfl,rfl⟩:=e2;have Hy:=Lib.hid hy;clear hy;have HS0:Hid (∀z,Below (wr.heap.size+1) (wr.alloc (.cells #[.int .i64 I,.int .i64 D,.int .i64 P,.int .i64 T] 51)) z→(z.cell? ⟨w.heap.size,0,none⟩=some (.slice (some ⟨b,o,none⟩) n c)∧z.cell? ⟨w.heap.size,1,none⟩=some (.slice A' n' c')∧z.cell? ⟨wr.heap.size,0,none⟩=some (.int .i64 I)∧z.cell? ⟨wr.heap.size,1,none⟩=some (.int .i64 D)∧z.cell? ⟨wr.heap.size,2,none⟩=some (.int .i64 P)∧z.cell? ⟨wr.heap.size,3,none⟩=some (.int .i64 T)∧z.cell? ⟨b,o+k*4,none⟩=some (.int .i64 I')∧z.cell? ⟨b,o+k*4+1,none⟩=some (.int .i64 D')∧Hid (Below (wr.heap.size+1) (wr.alloc (.cells #[.int .i64 I,.int .i64 D,.int .i64 P,.int .i64 T] 51)) z))):=by
     intro z hz;refine⟨(hz.cell (p:=⟨w.heap.size,0,none⟩) (by simp;omega)).trans ((World.cell?_alloc_lt _ _ _ (by simp;omega)).trans m0),(hz.cell (p:=⟨w.heap.size,1,none⟩) (by simp;omega)).trans ((World.cell?_alloc_lt _ _ _ (by simp;omega)).trans m1),?_,?_,?_,?_,(hz.cell (p:=⟨b,o+k*4,none⟩) (by simp;omega)).trans ((World.cell?_alloc_lt _ _ _ (by simp;omega)).trans y0),(hz.cell (p:=⟨b,o+k*4+1,none⟩) (by simp;omega)).trans ((World.cell?_alloc_lt _ _ _ (by simp;omega)).trans y1),hz⟩
     ·rw[hz.cell (p:=⟨wr.heap.size,0,none⟩) (by simp),World.cell?_alloc_at _ _ _ _ rfl];rfl
     ·rw[hz.cell (p:=⟨wr.heap.size,1,none⟩) (by simp),World.cell?_alloc_at _ _ _ _ rfl];rfl
     ·rw[hz.cell (p:=⟨wr.heap.size,2,none⟩) (by simp),World.cell?_alloc_at _ _ _ _ rfl];rfl
     ·rw[hz.cell (p:=⟨wr.heap.size,3,none⟩) (by simp),World.cell?_alloc_at _ _ _ _ rfl];rfl
    have HZ:Hid (wr.heap.size+1≤(wr.alloc (.cells #[.int .i64 I,.int .i64 D,.int .i64 P,.int .i64 T] 51)).heap.size):=(by show _≤_;simp);have hBz:=Lib.hid (hBr.out.alloc (o:=.cells #[.int .i64 I,.int .i64 D,.int .i64 P,.int .i64 T] 51) hsz)
    skip
    (go_wp2_with fail);clear m0 m1 c0 c1 c2 c3 y0 y1;generalize (wr.alloc (.cells #[.int .i64 I,.int .i64 D,.int .i64 P,.int .i64 T] 51))=wz at *;have HS:=HS0;clear HS0;have HP:Hid (∀z,(z.cell? ⟨w.heap.size,0,none⟩=some (.slice (some ⟨b,o,none⟩) n c)∧z.cell? ⟨w.heap.size,1,none⟩=some (.slice A' n' c')∧z.cell? ⟨wr.heap.size,0,none⟩=some (.int .i64 I)∧z.cell? ⟨wr.heap.size,1,none⟩=some (.int .i64 D)∧z.cell? ⟨wr.heap.size,2,none⟩=some (.int .i64 P)∧z.cell? ⟨wr.heap.size,3,none⟩=some (.int .i64 T)∧z.cell? ⟨b,o+k*4,none⟩=some (.int .i64 I')∧z.cell? ⟨b,o+k*4+1,none⟩=some (.int .i64 D')∧Hid (Below (wr.heap.size+1) wz z))→Hid (Below (wr.heap.size+1) wz z)):=fun z h=>h.2.2.2.2.2.2.2.2;have HW:Hid (∀z,Hid (Below (wr.heap.size+1) wz z)→Below (w.heap.size+1) wb z):=fun z h=>hBz.out.trans (h.out.mono (by omega));have hkn:k<n:=(by omega);have hkp:(0:Int)<((k+1:Nat):Int):=(by omega);have hk0:k≤4096:=(by omega);have wk:=pw1 hk0;have wk2:=pw2 hk0;have wk3:=pw3 hk0;have wk4:=pw4 hk0;refine wp_region_held_drew (S:=(fun z=>z.cell? ⟨w.heap.size,0,none⟩=some (.slice (some ⟨b,o,none⟩) n c)∧z.cell? ⟨w.heap.size,1,none⟩=some (.slice A' n' c')∧z.cell? ⟨wr.heap.size,0,none⟩=some (.int .i64 I)∧z.cell? ⟨wr.heap.size,1,none⟩=some (.int .i64 D)∧z.cell? ⟨wr.heap.size,2,none⟩=some (.int .i64 P)∧z.cell? ⟨wr.heap.size,3,none⟩=some (.int .i64 T)∧z.cell? ⟨b,o+k*4,none⟩=some (.int .i64 I')∧z.cell? ⟨b,o+k*4+1,none⟩=some (.int .i64 D')∧Hid (Below (wr.heap.size+1) wz z))) (by kernel_rfl) ?_ (fun hHeld=>?_)
    ·exact HS.out _ (Below.refl _ _).drew
    refine tY (v:=?_) 0 13 ?_ ?_;rotate_left
    ·intro w hSw;(try dsimp only at hSw);go_simp;(try with_reducible rfl)
    (try simp only[N0]);refine tY (v:=?_) 1 14 ?_ ?_;rotate_left
    ·intro w hSw;(try dsimp only at hSw);go_simp;(try with_reducible rfl)
    (try simp only[N0]);refine wpAnyH_ready (rs:=[2]) (by kernel_rfl) (by simp) ?_;refine AllReadyH.cons (o:=_) rfl (fun K hK=>?_) AllReadyH.nil;go_simp;refine hK.out _ _ ?_ (fun hHeld=>?_)
    ·first|exact HS.out _ (keepAd (HP.out _ (by assumption)) HZ _)|exact HS.out _ (keepA (HP.out _ (by assumption)) HZ _)|exact HS.out _ (keepC (HP.out _ (by assumption)) HZ (by assumption))
    clear hK K;(try simp only[N0]);refine wpAnyH_ready (rs:=[3]) (by kernel_rfl) (by simp) ?_;refine AllReadyH.cons (o:=_) rfl (fun K hK=>?_) AllReadyH.nil;go_simp;refine(in1 1 9999 I _ _ (by first|exact cellNd _ _ _|exact cellN _ _ _) (by simp)).mono ?_;rintro e w' ⟨rfl,hb'⟩;have HB':=Lib.hid hb';clear hb';(try go_simp);refine hK.out _ _ ?_ (fun hHeld=>?_)
    ·first|exact HS.out _ (keepAd (HP.out _ (by assumption)) HZ _)|exact HS.out _ (keepA (HP.out _ (by assumption)) HZ _)|exact HS.out _ (keepC (HP.out _ (by assumption)) HZ (by assumption))
    clear hK K;(try simp only[N0]);cases T1:rng 1 9999 I
    ·refine tY (v:=?_) 4 17 ?_ ?_;rotate_left
     ·intro w hSw;(try dsimp only at hSw);go_simp;(try with_reducible rfl)
     (try simp only[N0]);refine tY (v:=?_) 5 18 ?_ ?_;rotate_left
     ·intro w hSw;(try dsimp only at hSw);go_simp;(try with_reducible rfl)
     (try simp only[N0]);refine tN 6 19 ?_;(try simp only[N0]);refine tN 7 20 ?_;(try simp only[N0]);refine tN 8 21 ?_;(try simp only[N0]);refine tN 9 22 ?_;(try simp only[N0]);refine tN 10 23 ?_;(try simp only[N0]);refine tY (v:=?_) 11 24 ?_ ?_;rotate_left
     ·intro w hSw;(try dsimp only at hSw);go_simp;(try with_reducible rfl)
     (try simp only[N0]);refine tY (v:=?_) 12 25 ?_ ?_;rotate_left
     ·intro w hSw;(try dsimp only at hSw);go_simp;(try with_reducible rfl)
     (try simp only[N0]);refine tN 13 26 ?_;(try simp only[N0]);refine tN 14 27 ?_;(try simp only[N0]);refine tN 15 28 ?_;(try simp only[N0]);refine tN 16 29 ?_;(try simp only[N0]);refine tN 17 30 ?_;(try simp only[N0]);refine tY (v:=?_) 18 31 ?_ ?_;rotate_left
     ·intro w hSw;(try dsimp only at hSw);go_simp;(try with_reducible rfl)
     (try simp only[N0]);refine tY (v:=?_) 19 32 ?_ ?_;rotate_left
     ·intro w hSw;(try dsimp only at hSw);go_simp;(try with_reducible rfl)
     (try simp only[N0]);refine tN 20 33 ?_;(try simp only[N0]);refine tN 21 34 ?_;(try simp only[N0]);refine tN 22 35 ?_;(try simp only[N0]);refine tN 23 36 ?_;(try simp only[N0]);refine tN 24 37 ?_;(try simp only[N0]);refine tN 25 38 ?_;(try simp only[N0]);refine tN 26 39 ?_;(try simp only[N0]);refine tN 27 40 ?_;(try simp only[N0]);refine tN 28 41 ?_;(try simp only[N0]);refine tN 29 42 ?_;(try simp only[N0]);refine tN 30 43 ?_;(try simp only[N0]);refine tN 31 44 ?_;(try simp only[N0]);refine tN 32 45 ?_;(try simp only[N0]);refine tN 33 46 ?_;(try simp only[N0]);refine tN 34 47 ?_;(try simp only[N0]);refine tN 35 48 ?_;(try simp only[N0]);refine tN 36 49 ?_;(try simp only[N0]);refine tN 37 50 ?_;(try simp only[N0]);refine tN 38 51 ?_;(try simp only[N0]);refine tN 39 52 ?_;(try simp only[N0]);refine tN 40 53 ?_;(try simp only[N0]);refine tN 41 54 ?_;(try simp only[N0]);refine tN 42 55 ?_;(try simp only[N0]);refine tN 43 56 ?_;(try simp only[N0]);refine tN 44 57 ?_;(try simp only[N0]);refine tN 45 58 ?_;(try simp only[N0]);refine tY (v:=?_) 46 59 ?_ ?_;rotate_left
     ·intro w hSw;(try dsimp only at hSw);go_simp;(try with_reducible rfl)
     (try simp only[N0]);refine wpAnyH_done (by kernel_rfl) ?_ _;clear wk wk2 wk3 wk4;have hbad:Hid (allP ps=false):=allP_false Hx.out (by simp[okP,T1]);clear hall;go_wp2;go_ret;exact⟨ret_bool hbad.out.symm,hB0.out.trans ((HW.out _ (HP.out _ (by assumption))).mono (by omega))⟩
    ·refine tY (v:=?_) 4 17 ?_ ?_;rotate_left
     ·intro w hSw;(try dsimp only at hSw);go_simp;(try with_reducible rfl)
     (try simp only[N0]);refine tY (v:=?_) 5 18 ?_ ?_;rotate_left
     ·intro w hSw;(try dsimp only at hSw);go_simp;(try with_reducible rfl)
     (try simp only[N0]);refine tY (v:=?_) 6 19 ?_ ?_;rotate_left
     ·intro w hSw;(try dsimp only at hSw);go_simp;(try with_reducible rfl)
     (try simp only[N0]);refine tY (v:=?_) 7 20 ?_ ?_;rotate_left
     ·intro w hSw;(try dsimp only at hSw);go_simp;(try with_reducible rfl)
     (try simp only[N0]);refine wpAnyH_ready (rs:=[8]) (by kernel_rfl) (by simp) ?_;refine AllReadyH.cons (o:=_) rfl (fun K hK=>?_) AllReadyH.nil;go_simp;refine hK.out _ _ ?_ (fun hHeld=>?_)
     ·first|exact HS.out _ (keepAd (HP.out _ (by assumption)) HZ _)|exact HS.out _ (keepA (HP.out _ (by assumption)) HZ _)|exact HS.out _ (keepC (HP.out _ (by assumption)) HZ (by assumption))
     clear hK K;(try simp only[N0]);refine wpAnyH_ready (rs:=[9]) (by kernel_rfl) (by simp) ?_;refine AllReadyH.cons (o:=_) rfl (fun K hK=>?_) AllReadyH.nil;go_simp;refine(in1 0 3652 D _ _ (by first|exact cellNd _ _ _|exact cellN _ _ _) (by simp)).mono ?_;rintro e w' ⟨rfl,hb'⟩;have HB':=Lib.hid hb';clear hb';(try go_simp);refine hK.out _ _ ?_ (fun hHeld=>?_)
     ·first|exact HS.out _ (keepAd (HP.out _ (by assumption)) HZ _)|exact HS.out _ (keepA (HP.out _ (by assumption)) HZ _)|exact HS.out _ (keepC (HP.out _ (by assumption)) HZ (by assumption))
     clear hK K;(try simp only[N0]);cases T2:rng 0 3652 D
     ·refine tY (v:=?_) 10 23 ?_ ?_;rotate_left
      ·intro w hSw;(try dsimp only at hSw);go_simp;(try with_reducible rfl)
      (try simp only[N0]);refine tY (v:=?_) 11 24 ?_ ?_;rotate_left
      ·intro w hSw;(try dsimp only at hSw);go_simp;(try with_reducible rfl)
      (try simp only[N0]);refine tY (v:=?_) 12 25 ?_ ?_;rotate_left
      ·intro w hSw;(try dsimp only at hSw);go_simp;(try with_reducible rfl)
      (try simp only[N0]);refine tN 13 26 ?_;(try simp only[N0]);refine tN 14 27 ?_;(try simp only[N0]);refine tN 15 28 ?_;(try simp only[N0]);refine tN 16 29 ?_;(try simp only[N0]);refine tN 17 30 ?_;(try simp only[N0]);refine tY (v:=?_) 18 31 ?_ ?_;rotate_left
      ·intro w hSw;(try dsimp only at hSw);go_simp;(try with_reducible rfl)
      (try simp only[N0]);refine tY (v:=?_) 19 32 ?_ ?_;rotate_left
      ·intro w hSw;(try dsimp only at hSw);go_simp;(try with_reducible rfl)
      (try simp only[N0]);refine tN 20 33 ?_;(try simp only[N0]);refine tN 21 34 ?_;(try simp only[N0]);refine tN 22 35 ?_;(try simp only[N0]);refine tN 23 36 ?_;(try simp only[N0]);refine tN 24 37 ?_;(try simp only[N0]);refine tN 25 38 ?_;(try simp only[N0]);refine tN 26 39 ?_;(try simp only[N0]);refine tN 27 40 ?_;(try simp only[N0]);refine tN 28 41 ?_;(try simp only[N0]);refine tN 29 42 ?_;(try simp only[N0]);refine tN 30 43 ?_;(try simp only[N0]);refine tN 31 44 ?_;(try simp only[N0]);refine tN 32 45 ?_;(try simp only[N0]);refine tN 33 46 ?_;(try simp only[N0]);refine tN 34 47 ?_;(try simp only[N0]);refine tN 35 48 ?_;(try simp only[N0]);refine tN 36 49 ?_;(try simp only[N0]);refine tN 37 50 ?_;(try simp only[N0]);refine tN 38 51 ?_;(try simp only[N0]);refine tN 39 52 ?_;(try simp only[N0]);refine tN 40 53 ?_;(try simp only[N0]);refine tN 41 54 ?_;(try simp only[N0]);refine tN 42 55 ?_;(try simp only[N0]);refine tN 43 56 ?_;(try simp only[N0]);refine tN 44 57 ?_;(try simp only[N0]);refine tN 45 58 ?_;(try simp only[N0]);refine tY (v:=?_) 46 59 ?_ ?_;rotate_left
      ·intro w hSw;(try dsimp only at hSw);go_simp;(try with_reducible rfl)
      (try simp only[N0]);refine wpAnyH_done (by kernel_rfl) ?_ _;clear wk wk2 wk3 wk4;have hbad:Hid (allP ps=false):=allP_false Hx.out (by simp[okP,T2]);clear hall;go_wp2;go_ret;exact⟨ret_bool hbad.out.symm,hB0.out.trans ((HW.out _ (HP.out _ (by assumption))).mono (by omega))⟩
     ·refine tY (v:=?_) 10 23 ?_ ?_;rotate_left
      ·intro w hSw;(try dsimp only at hSw);go_simp;(try with_reducible rfl)
      (try simp only[N0]);refine tY (v:=?_) 11 24 ?_ ?_;rotate_left
      ·intro w hSw;(try dsimp only at hSw);go_simp;(try with_reducible rfl)
      (try simp only[N0]);refine tY (v:=?_) 12 25 ?_ ?_;rotate_left
      ·intro w hSw;(try dsimp only at hSw);go_simp;(try with_reducible rfl)
      (try simp only[N0]);refine tY (v:=?_) 13 26 ?_ ?_;rotate_left
      ·intro w hSw;(try dsimp only at hSw);go_simp;(try with_reducible rfl)
      (try simp only[N0]);refine tY (v:=?_) 14 27 ?_ ?_;rotate_left
      ·intro w hSw;(try dsimp only at hSw);go_simp;(try with_reducible rfl)
      (try simp only[N0]);refine wpAnyH_ready (rs:=[15]) (by kernel_rfl) (by simp) ?_;refine AllReadyH.cons (o:=_) rfl (fun K hK=>?_) AllReadyH.nil;go_simp;refine hK.out _ _ ?_ (fun hHeld=>?_)
      ·first|exact HS.out _ (keepAd (HP.out _ (by assumption)) HZ _)|exact HS.out _ (keepA (HP.out _ (by assumption)) HZ _)|exact HS.out _ (keepC (HP.out _ (by assumption)) HZ (by assumption))
      clear hK K;(try simp only[N0]);refine wpAnyH_ready (rs:=[16]) (by kernel_rfl) (by simp) ?_;refine AllReadyH.cons (o:=_) rfl (fun K hK=>?_) AllReadyH.nil;go_simp;refine(in1 1 6 P _ _ (by first|exact cellNd _ _ _|exact cellN _ _ _) (by simp)).mono ?_;rintro e w' ⟨rfl,hb'⟩;have HB':=Lib.hid hb';clear hb';(try go_simp);refine hK.out _ _ ?_ (fun hHeld=>?_)
      ·first|exact HS.out _ (keepAd (HP.out _ (by assumption)) HZ _)|exact HS.out _ (keepA (HP.out _ (by assumption)) HZ _)|exact HS.out _ (keepC (HP.out _ (by assumption)) HZ (by assumption))
      clear hK K;(try simp only[N0]);cases T3:rng 1 6 P
      ·refine tY (v:=?_) 17 30 ?_ ?_;rotate_left
       ·intro w hSw;(try dsimp only at hSw);go_simp;(try with_reducible rfl)
       (try simp only[N0]);refine tY (v:=?_) 18 31 ?_ ?_;rotate_left
       ·intro w hSw;(try dsimp only at hSw);go_simp;(try with_reducible rfl)
       (try simp only[N0]);refine tY (v:=?_) 19 32 ?_ ?_;rotate_left
       ·intro w hSw;(try dsimp only at hSw);go_simp;(try with_reducible rfl)
       (try simp only[N0]);refine tN 20 33 ?_;(try simp only[N0]);refine tN 21 34 ?_;(try simp only[N0]);refine tN 22 35 ?_;(try simp only[N0]);refine tN 23 36 ?_;(try simp only[N0]);refine tN 24 37 ?_;(try simp only[N0]);refine tN 25 38 ?_;(try simp only[N0]);refine tN 26 39 ?_;(try simp only[N0]);refine tN 27 40 ?_;(try simp only[N0]);refine tN 28 41 ?_;(try simp only[N0]);refine tN 29 42 ?_;(try simp only[N0]);refine tN 30 43 ?_;(try simp only[N0]);refine tN 31 44 ?_;(try simp only[N0]);refine tN 32 45 ?_;(try simp only[N0]);refine tN 33 46 ?_;(try simp only[N0]);refine tN 34 47 ?_;(try simp only[N0]);refine tN 35 48 ?_;(try simp only[N0]);refine tN 36 49 ?_;(try simp only[N0]);refine tN 37 50 ?_;(try simp only[N0]);refine tN 38 51 ?_;(try simp only[N0]);refine tN 39 52 ?_;(try simp only[N0]);refine tN 40 53 ?_;(try simp only[N0]);refine tN 41 54 ?_;(try simp only[N0]);refine tN 42 55 ?_;(try simp only[N0]);refine tN 43 56 ?_;(try simp only[N0]);refine tN 44 57 ?_;(try simp only[N0]);refine tN 45 58 ?_;(try simp only[N0]);refine tY (v:=?_) 46 59 ?_ ?_;rotate_left
       ·intro w hSw;(try dsimp only at hSw);go_simp;(try with_reducible rfl)
       (try simp only[N0]);refine wpAnyH_done (by kernel_rfl) ?_ _;clear wk wk2 wk3 wk4;have hbad:Hid (allP ps=false):=allP_false Hx.out (by simp[okP,T3]);clear hall;go_wp2;go_ret;exact⟨ret_bool hbad.out.symm,hB0.out.trans ((HW.out _ (HP.out _ (by assumption))).mono (by omega))⟩
      ·refine tY (v:=?_) 17 30 ?_ ?_;rotate_left
       ·intro w hSw;(try dsimp only at hSw);go_simp;(try with_reducible rfl)
       (try simp only[N0]);refine tY (v:=?_) 18 31 ?_ ?_;rotate_left
       ·intro w hSw;(try dsimp only at hSw);go_simp;(try with_reducible rfl)
       (try simp only[N0]);refine tY (v:=?_) 19 32 ?_ ?_;rotate_left
       ·intro w hSw;(try dsimp only at hSw);go_simp;(try with_reducible rfl)
       (try simp only[N0]);refine tY (v:=?_) 20 33 ?_ ?_;rotate_left
       ·intro w hSw;(try dsimp only at hSw);go_simp;(try with_reducible rfl)
       (try simp only[N0]);refine tY (v:=?_) 21 34 ?_ ?_;rotate_left
       ·intro w hSw;(try dsimp only at hSw);go_simp;(try with_reducible rfl)
       (try simp only[N0]);refine tY (v:=?_) 22 35 ?_ ?_;rotate_left
       ·intro w hSw;(try dsimp only at hSw);go_simp;(try with_reducible rfl)
       (try simp only[N0]);refine tY (v:=?_) 23 36 ?_ ?_;rotate_left
       ·intro w hSw;(try dsimp only at hSw);go_simp;(try with_reducible rfl)
       (try simp only[N0]);refine tY (v:=?_) 24 37 ?_ ?_;rotate_left
       ·intro w hSw;(try dsimp only at hSw);go_simp;(try with_reducible rfl)
       (try simp only[N0]);refine tY (v:=?_) 25 38 ?_ ?_;rotate_left
       ·intro w hSw;(try dsimp only at hSw);go_simp;(try with_reducible rfl)
       (try simp only[N0]);refine tY (v:=?_) 26 39 ?_ ?_;rotate_left
       ·intro w hSw;(try dsimp only at hSw);go_simp;(try with_reducible rfl)
       (try simp only[N0]);refine tY (v:=?_) 27 40 ?_ ?_;rotate_left
       ·intro w hSw;(try dsimp only at hSw);go_simp;(try with_reducible rfl)
       (try simp only[N0]);refine tY (v:=?_) 28 41 ?_ ?_;rotate_left
       ·intro w hSw;(try dsimp only at hSw);go_simp;(try with_reducible rfl)
       (try simp only[N0]);refine tY (v:=?_) 29 42 ?_ ?_;rotate_left
       ·intro w hSw;(try dsimp only at hSw);go_simp;(try with_reducible rfl)
       (try simp only[N0]);refine tY (v:=?_) 30 43 ?_ ?_;rotate_left
       ·intro w hSw;(try dsimp only at hSw);go_simp;(try with_reducible rfl)
       (try simp only[N0]);refine tY (v:=?_) 31 44 ?_ ?_;rotate_left
       ·intro w hSw;(try dsimp only at hSw);go_simp;(try with_reducible rfl)
       (try simp only[N0]);by_cases hI:I≤I'
       ·have hI':decide (I≤I')=true:=(by simpa using hI);refine tY (v:=?_) 32 45 ?_ ?_;rotate_left
        ·intro w hSw;(try dsimp only at hSw);go_simp;(try with_reducible rfl)
        (try simp only[N0]);refine tY (v:=?_) 33 46 ?_ ?_;rotate_left
        ·intro w hSw;(try dsimp only at hSw);go_simp;(try with_reducible rfl)
        (try simp only[N0]);refine tN 34 47 ?_;(try simp only[N0]);refine tN 35 48 ?_;(try simp only[N0]);refine tN 36 49 ?_;(try simp only[N0]);refine tN 37 50 ?_;(try simp only[N0]);refine tN 38 51 ?_;(try simp only[N0]);refine tN 39 52 ?_;(try simp only[N0]);refine tN 40 53 ?_;(try simp only[N0]);refine tN 41 54 ?_;(try simp only[N0]);refine tN 42 55 ?_;(try simp only[N0]);refine tN 43 56 ?_;(try simp only[N0]);refine tY (v:=?_) 44 57 ?_ ?_;rotate_left
        ·intro w hSw;(try dsimp only at hSw);go_simp;(try with_reducible rfl)
        (try simp only[N0]);refine tY (v:=?_) 45 58 ?_ ?_;rotate_left
        ·intro w hSw;(try dsimp only at hSw);go_simp;(try with_reducible rfl)
        (try simp only[N0]);refine tY (v:=?_) 46 59 ?_ ?_;rotate_left
        ·intro w hSw;(try dsimp only at hSw);go_simp;(try with_reducible rfl)
        (try simp only[N0]);refine wpAnyH_done (by kernel_rfl) ?_ _;clear wk wk2 wk3 wk4;have hbad:Hid (allP ps=false):=allP_false Hx.out (by exact okP_prev Hy.out (by omega));clear hall;go_wp2;go_ret;exact⟨ret_bool hbad.out.symm,hB0.out.trans ((HW.out _ (HP.out _ (by assumption))).mono (by omega))⟩
       ·have hI':decide (I≤I')=false:=(by simpa using hI);refine tY (v:=?_) 32 45 ?_ ?_;rotate_left
        ·intro w hSw;(try dsimp only at hSw);go_simp;(try with_reducible rfl)
        (try simp only[N0]);refine tY (v:=?_) 33 46 ?_ ?_;rotate_left
        ·intro w hSw;(try dsimp only at hSw);go_simp;(try with_reducible rfl)
        (try simp only[N0]);refine tY (v:=?_) 34 47 ?_ ?_;rotate_left
        ·intro w hSw;(try dsimp only at hSw);go_simp;(try with_reducible rfl)
        (try simp only[N0]);refine tY (v:=?_) 35 48 ?_ ?_;rotate_left
        ·intro w hSw;(try dsimp only at hSw);go_simp;(try with_reducible rfl)
        (try simp only[N0]);refine tY (v:=?_) 36 49 ?_ ?_;rotate_left
        ·intro w hSw;(try dsimp only at hSw);go_simp;(try with_reducible rfl)
        (try simp only[N0]);refine tY (v:=?_) 37 50 ?_ ?_;rotate_left
        ·intro w hSw;(try dsimp only at hSw);go_simp;(try with_reducible rfl)
        (try simp only[N0]);refine tY (v:=?_) 38 51 ?_ ?_;rotate_left
        ·intro w hSw;(try dsimp only at hSw);go_simp;(try with_reducible rfl)
        (try simp only[N0]);refine tY (v:=?_) 39 52 ?_ ?_;rotate_left
        ·intro w hSw;(try dsimp only at hSw);go_simp;(try with_reducible rfl)
        (try simp only[N0]);refine tY (v:=?_) 40 53 ?_ ?_;rotate_left
        ·intro w hSw;(try dsimp only at hSw);go_simp;(try with_reducible rfl)
        (try simp only[N0]);refine tY (v:=?_) 41 54 ?_ ?_;rotate_left
        ·intro w hSw;(try dsimp only at hSw);go_simp;(try with_reducible rfl)
        (try simp only[N0]);refine tY (v:=?_) 42 55 ?_ ?_;rotate_left
        ·intro w hSw;(try dsimp only at hSw);go_simp;(try with_reducible rfl)
        (try simp only[N0]);by_cases hD:D<D'
        ·have hD':decide (D<D')=true:=(by simpa using hD);refine tY (v:=?_) 43 56 ?_ ?_;rotate_left
         ·intro w hSw;(try dsimp only at hSw);go_simp;(try with_reducible rfl)
         (try simp only[N0]);refine tY (v:=?_) 44 57 ?_ ?_;rotate_left
         ·intro w hSw;(try dsimp only at hSw);go_simp;(try with_reducible rfl)
         (try simp only[N0]);refine tY (v:=?_) 45 58 ?_ ?_;rotate_left
         ·intro w hSw;(try dsimp only at hSw);go_simp;(try with_reducible rfl)
         (try simp only[N0]);refine tY (v:=?_) 46 59 ?_ ?_;rotate_left
         ·intro w hSw;(try dsimp only at hSw);go_simp;(try with_reducible rfl)
         (try simp only[N0]);refine wpAnyH_done (by kernel_rfl) ?_ _;clear wk wk2 wk3 wk4;have hbad:Hid (allP ps=false):=allP_false Hx.out (by exact okP_prev Hy.out (by omega));clear hall;go_wp2;go_ret;exact⟨ret_bool hbad.out.symm,hB0.out.trans ((HW.out _ (HP.out _ (by assumption))).mono (by omega))⟩
        ·have hD':decide (D<D')=false:=(by simpa using hD);refine tY (v:=?_) 43 56 ?_ ?_;rotate_left
         ·intro w hSw;(try dsimp only at hSw);go_simp;(try with_reducible rfl)
         (try simp only[N0]);refine tY (v:=?_) 44 57 ?_ ?_;rotate_left
         ·intro w hSw;(try dsimp only at hSw);go_simp;(try with_reducible rfl)
         (try simp only[N0]);refine tY (v:=?_) 45 58 ?_ ?_;rotate_left
         ·intro w hSw;(try dsimp only at hSw);go_simp;(try with_reducible rfl)
         (try simp only[N0]);refine tY (v:=?_) 46 59 ?_ ?_;rotate_left
         ·intro w hSw;(try dsimp only at hSw);go_simp;(try with_reducible rfl)
         (try simp only[N0]);refine wpAnyH_done (by kernel_rfl) ?_ _;clear wk wk2 wk3 wk4;have hpv:Hid (okPrev ps (k+1) (I,D,P,T)=true):=okPrev_succ Hy.out hI hD;have HB9:=Lib.hid (HW.out _ (HP.out _ (by assumption)));obtain⟨r0,r1,r2,r3,r4,r5,r6,r7,-⟩:=hHeld;by_cases hT:T=0
         ·have hok:Hid (okP ps (k+1) (I,D,P,T)=true):=by
           show _=_;simp only[okP,okTo_zero hT,T1,T2,T3,hpv.out,Bool.and_self]
          have hnx:=Lib.hid (allP_next hall.out Hx.out hok.out);have hT':(T != 0)=false:=(by simpa using hT);clear hall r0 r1 r2 r3;go_wp2;go_roundw
          case rel=>exact⟨_,by omega,by go_num,hnx,HB9⟩
          case measure=>simp[intOf];omega
         ·have hT':(T != 0)=true:=(by simpa using hT);have H6:=Lib.hid (index_any _ A' n c n' c' ps T _ hn0 (HR.out _ HB9.out));obtain⟨j0,j1⟩:=idxP_bound ps T;by_cases hj:idxP ps T≤((k+1:Nat):Int)
          ·have hbad:Hid (allP ps=false):=allP_false Hx.out (okP_to hT hj);generalize idxP ps T=jx at *;clear hall r2 r3 r4;(go_wp2_with fail);refine H6.out.mono ?_;rintro e w6 ⟨rfl,hb6⟩;have HB6:=Lib.hid (below_via HB9.out (HZ9.out _ HB9.out) hb6);clear hb6;go_wp2;go_ret;exact⟨ret_bool hbad.out.symm,hB0.out.trans (HB6.out.mono (by omega))⟩
          ·have hok:Hid (okP ps (k+1) (I,D,P,T)=true):=by
            show _=_;simp only[okP,okTo_idx hj,T1,T2,T3,hpv.out,Bool.and_self]
           have hnx:=Lib.hid (allP_next hall.out Hx.out hok.out);generalize idxP ps T=jx at *;clear hall r2 r3 r4;(go_wp2_with fail);refine H6.out.mono ?_;rintro e w6 ⟨rfl,hb6⟩;have HB6:=Lib.hid (below_via HB9.out (HZ9.out _ HB9.out) hb6);clear hb6;go_wp2;go_roundw
           case rel=>exact⟨_,by omega,by go_num,hnx,HB6⟩
           case measure=>simp[intOf];omega
  ·have hfin:=Lib.hid (allP_true (ps:=ps) (fun i y hy=>hall.out i y (by have:=(List.getElem?_eq_some_iff.1 hy).1;omega) hy));clear hall m0 m1;go_wp2;go_ret;exact⟨ret_bool hfin.out.symm,hB0.out.trans (hBr.out.mono (by omega))⟩
end Go.Proofs.YtfplipbkjglmhaaDoor
