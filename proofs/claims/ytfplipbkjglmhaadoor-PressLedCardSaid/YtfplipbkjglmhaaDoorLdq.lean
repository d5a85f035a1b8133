/-
 PressLed, the tied card: for every press and two pressings the law returns true, and its arguments read as before. The package's table of checks is laid as the program's text lays it (the given ties).
-/
import Derived.Test.YtfplipbkjglmhaaDoorPSame
import Derived.Test.YtfplipbkjglmhaaDoorRdy
import Derived.Test.YtfplipbkjglmhaaDoorUnd
import Derived.Test.YtfplipbkjglmhaaDoorLead
import Derived.Test.YtfplipbkjglmhaaDoorTk
import Derived.Test.YtfplipbkjglmhaaDoorAliv
import Derived.Test.YtfplipbkjglmhaaDoorPLaid
import Derived.Test.YtfplipbkjglmhaaDoorCards
import Derived.Test.YtfplipbkjglmhaaDoorTie
import Derived.SevenTiedAt
namespace Go.Proofs.YtfplipbkjglmhaaDoor
open Go.RowKit
set_option linter.unusedVariables false
set_option linter.unusedSimpArgs false
theorem pg_same(I D P T:Int)(w:World) :
  (Op.equalIn 10000 51 (.agg #[.int .i64 I,.int .i64 D,.int .i64 P,.int .i64 T]) (.agg #[.int .i64 I,.int .i64 D,.int .i64 P,.int .i64 T])).run Tryd.prog w = .ok true w:=by
 have z3:=Tryd.sizeOf3;have a3:=Tryd.isAgg3;have u3:=Tryd.underlying3;have hS:Tryd.prog.underlying 51=some (.struct (Tryd.prog.fieldsOf 51)):=by kernel_rfl
 have hp:Tryd.prog.stoodInHeld 51=false:=by kernel_rfl
 rw[show (10000:Nat)=9999+1 from rfl,run_equalIn_agg w 9999 51 _ _ hS hp];simp only[Program.fieldsOf,Tryd.underlying51];go_simp
theorem wg_same(N P K L H:Int)(w:World) :
  (Op.equalIn 10000 81 (.agg #[.int .i64 N,.int .i64 P,.int .i64 K,.int .i64 L,.int .i64 H]) (.agg #[.int .i64 N,.int .i64 P,.int .i64 K,.int .i64 L,.int .i64 H])).run Tryd.prog w = .ok true w:=by
 have z3:=Tryd.sizeOf3;have a3:=Tryd.isAgg3;have u3:=Tryd.underlying3;have z4:=Tryd.sizeOf36;have a4:=Tryd.isAgg36;have hE:=eq_span L H;have hS:Tryd.prog.underlying 81=some (.struct (Tryd.prog.fieldsOf 81)):=by kernel_rfl
 have hp:Tryd.prog.stoodInHeld 81=false:=by kernel_rfl
 rw[show (10000:Nat)=9999+1 from rfl,run_equalIn_agg w 9999 81 _ _ hS hp];simp only[Program.fieldsOf,Tryd.underlying81];go_simp
set_option maxRecDepth 100000 in
set_option maxHeartbeats 2000000 in
theorem Same_same(A A' B B':Option Addr)(n c n' c' d d':Nat)(ps:List PR)(ws:List WE)(w:World)(hn:n≤maxLen)(hn':n'≤maxLen)
  (h:Reads w w.heap.size 4 A n (pgs ps)) (h':Reads w w.heap.size 5 A' n' (wgs ws)) (g:Reads w w.heap.size 4 B n (pgs ps)) (g':Reads w w.heap.size 5 B' n' (wgs ws)) :
  Calls Tryd.prog 35 #[.agg #[.slice A n c,.slice A' n' c'],.agg #[.slice B n d,.slice B' n' d']] w fun e w'=>e = .returned (.bool true)∧Below w.heap.size w w':=by
 have gEq:Tryd.prog.eqGuardType Tryd.prog.depth 51=false:=by kernel_rfl
 have gEq2:Tryd.prog.eqGuardType Tryd.prog.depth 81=false:=by kernel_rfl
 unfold maxLen at hn hn';have hB0:Hid (Below w.heap.size w ((w.alloc (.cells #[.slice A n c,.slice A' n' c'] 25)).alloc (.cells #[.slice B n d,.slice B' n' d'] 25))):=((Below.refl _ _).alloc (Nat.le_refl _) _).alloc (by simp) _;have h1:=Lib.hid (h.below hB0.out);have h2:=Lib.hid (h'.below hB0.out);have g1:=Lib.hid (g.below hB0.out);have g2:=Lib.hid (g'.below hB0.out);have m1:((w.alloc (.cells #[.slice A n c,.slice A' n' c'] 25)).alloc (.cells #[.slice B n d,.slice B' n' d'] 25)).cell? ⟨w.heap.size,0,none⟩=some (.slice A n c):=by
  rw[World.cell?_alloc_lt _ _ _ (by simp),World.cell?_alloc_at _ _ _ _ rfl];rfl
 have m2:((w.alloc (.cells #[.slice A n c,.slice A' n' c'] 25)).alloc (.cells #[.slice B n d,.slice B' n' d'] 25)).cell? ⟨w.heap.size,1,none⟩=some (.slice A' n' c'):=by
  rw[World.cell?_alloc_lt _ _ _ (by simp),World.cell?_alloc_at _ _ _ _ rfl];rfl
 have m3:((w.alloc (.cells #[.slice A n c,.slice A' n' c'] 25)).alloc (.cells #[.slice B n d,.slice B' n' d'] 25)).cell? ⟨w.heap.size+1,0,none⟩=some (.slice B n d):=by
  rw[World.cell?_alloc_at _ _ _ _ (by simp)];rfl
 have m4:((w.alloc (.cells #[.slice A n c,.slice A' n' c'] 25)).alloc (.cells #[.slice B n d,.slice B' n' d'] 25)).cell? ⟨w.heap.size+1,1,none⟩=some (.slice B' n' d'):=by
  rw[World.cell?_alloc_at _ _ _ _ (by simp)];rfl
 clear h h' g g'
 go_enter Tryd.func35,Tryd.ntmps35
 go_wp2;generalize (w.alloc (.cells #[.slice A n c,.slice A' n' c'] 25)).alloc (.cells #[.slice B n d,.slice B' n' d'] 25)=wb at *;go_loopw [5] (fun x wr=>∃k:Nat,k≤n∧x = .int .i64 k∧Hid (∃q,wr=wb.drewN q)) (fun x _=>n - (intOf x).toNat)
 case atStart=>exact⟨0,by omega,rfl,⟨0,rfl⟩⟩
 case round=>
  obtain⟨k,hk,rfl,hq⟩:=hrel;obtain⟨q,rfl⟩:=hq.out;clear hq;by_cases hlt:k<n
  ·obtain⟨b,o,I,D,P,T,rfl,hb,hx,c0,c1,c2,c3⟩:=h1.out.pg hlt;obtain⟨b',o',I',D',P',T',rfl,hb',hx',c0',c1',c2',c3'⟩:=g1.out.pg hlt;rw[hx] at hx';simp only[Option.some.injEq,Prod.mk.injEq] at hx';obtain⟨rfl,rfl,rfl,rfl⟩:=hx';clear hx;have hE1:=pg_same I D P T;go_wp2;(go_quiet (fail));go_wp2;go_roundw
   case rel=>exact⟨k+1,by omega,by go_num,(by first|exact⟨_,rfl⟩|exact⟨_,World.drewN_drewN _ _ _⟩)⟩
   case measure=>simp[intOf];omega
  ·go_wp2;go_loopw [6] (fun x wr=>∃k:Nat,k≤n'∧x = .int .i64 k∧Hid (∃q,wr=wb.drewN q)) (fun x _=>n' - (intOf x).toNat)
   case atStart=>exact⟨0,by omega,rfl,⟨_,rfl⟩⟩
   case round=>
    obtain⟨m,hm,rfl,hq⟩:=hrel;obtain⟨q,rfl⟩:=hq.out;clear hq;by_cases hmt:m<n'
    ·obtain⟨b,o,N,P,K,L,H,rfl,hb,hx,c0,c1,c2,c3,c4⟩:=h2.out.wg hmt;obtain⟨b',o',N',P',K',L',H',rfl,hb',hx',c0',c1',c2',c3',c4'⟩:=g2.out.wg hmt;rw[hx] at hx';simp only[Option.some.injEq,Prod.mk.injEq] at hx';obtain⟨rfl,rfl,rfl,rfl,rfl⟩:=hx';clear hx;have hE2:=wg_same N P K L H;go_wp2;(go_quiet (fail));go_wp2;go_roundw
     case rel=>exact⟨m+1,by omega,by go_num,(by first|exact⟨_,rfl⟩|exact⟨_,World.drewN_drewN _ _ _⟩)⟩
     case measure=>simp[intOf];omega
    ·go_wp2;go_ret;exact⟨rfl,below_drewN hB0.out _⟩
end Go.Proofs.YtfplipbkjglmhaaDoor

namespace Go.Proofs.YtfplipbkjglmhaaDoor
open Go.RowKit
set_option linter.unusedVariables false
set_option linter.unusedSimpArgs false
section
variable {n:Nat} {t:Nat→Option Nat} {k i:Nat}
def cutT (t:Nat→Option Nat) (i:Nat):Nat→Option Nat:=fun j=>if j=i then none else t j
theorem cut_fwd(hF:Fwd n t):Fwd n (cutT t i):=fun j q hj h=>by
 unfold cutT at h;split at h
 ·cases h
 ·exact hF j q hj h
theorem led_cut(hF:Fwd n t)(hi:i<n):∀d j,n - j≤d→j<n→ldN n (cutT t i) k j=(ldN n t k j && !(ldN n t k i && (decide (j=i) || ldN n t i j)))
 |0,j,h,hj=>by omega
 |d+1,j,h,hj=>by
  by_cases e:j=i
  ·subst e;rw[ldN_none hj (show cutT t j j=none by simp[cutT])];cases ldN n t k j<;>simp
  ·have hc:cutT t i j=t j:=(by simp[cutT,e]);cases ht:t j with
   |none=>rw[ldN_none hj (hc.trans ht),ldN_none hj ht];rfl
   |some q=>
    obtain⟨a,b⟩:=hF j q hj ht;rw[ldN_some (cut_fwd hF) hj (hc.trans ht),ldN_some hF hj ht,ldN_some (k:=i) hF hj ht,led_cut hF hi d q (by omega) b,decide_eq_false e];by_cases hqk:q=k
    ·subst hqk;by_cases hqi:q<i
     ·have h0:ldN n t q i=false:=ldN_past hF n i (by omega) hi (by omega);rw[h0];simp
     ·have h0:ldN n t i q=false:=ldN_past hF n q (by omega) b (by omega);by_cases hqe:q=i
      ·subst hqe;rw[h0];simp
      ·rw[h0];simp[hqe]
    ·simp[hqk]
end
theorem setTo_at{ps:List PR}{i:Nat}{q0:Int}(j:Nat):(setTo ps i q0)[j]? = if j=i then(ps[j]?).map (fun x=>(x.1,x.2.1,x.2.2.1,q0)) else ps[j]?:=by
 unfold setTo;rw[List.getElem?_modify];by_cases h:i=j
 ·subst h;rw[if_pos rfl];cases ps[i]?<;>simp
 ·rw[if_neg (fun e=>h e.symm)];cases ps[j]?<;>simp[h]
theorem setTo_len{ps:List PR}{i:Nat}{q0:Int}:(setTo ps i q0).length=ps.length:=by unfold setTo;simp
theorem setTo_ids{ps:List PR}{i:Nat}{q0:Int}:(setTo ps i q0).map (fun x=>x.1)=ps.map fun x=>x.1:=by
 apply List.ext_getElem?
 intro j;rw[List.getElem?_map,List.getElem?_map,setTo_at];split
 ·cases ps[j]?<;>rfl
 ·rfl
theorem idxP_ids(ps:List PR)(id:Int):idxP ps id=match (ps.map fun x=>x.1).findIdx? (fun a=>a==id) with|some i=>(i:Int)|none=>-1:=by
 unfold idxP;rw[List.findIdx?_map];rfl
theorem setTo_idx{ps:List PR}{i:Nat}{q0:Int}(id:Int):idxP (setTo ps i q0) id=idxP ps id:=by rw[idxP_ids,idxP_ids,setTo_ids]
theorem setTo_T{ps:List PR}{i:Nat}:toT (setTo ps i 0)=cutT (toT ps) i:=by
 funext j
 have e:toT (setTo ps i 0) j=match (setTo ps i 0)[j]? with|some x=>if x.2.2.2=0 then none else some (idxP (setTo ps i 0) x.2.2.2).toNat|none=>none:=rfl
 have e2:toT ps j=match ps[j]? with|some x=>if x.2.2.2=0 then none else some (idxP ps x.2.2.2).toNat|none=>none:=rfl
 unfold cutT;rw[e,e2,setTo_at];by_cases h:j=i
 ·rw[if_pos h,if_pos h];cases ps[j]?<;>simp
 ·rw[if_neg h,if_neg h];cases ps[j]? with
  |none=>rfl
  |some x=>simp only[setTo_idx]
theorem setTo_idAt{ps:List PR}{i:Nat}{q0:Int}(j:Nat):idAt (setTo ps i q0) j=idAt ps j:=by
 show (match (setTo ps i q0)[j]? with|some x=>x.1|none=>0)=(match ps[j]? with|some x=>x.1|none=>0);rw[setTo_at];by_cases h:j=i
 ·rw[if_pos h];cases ps[j]?<;>rfl
 ·rw[if_neg h]
theorem allW_congr{a b:List PR}(h:∀id,idxP a id=idxP b id):∀(ws:List WE) (l:Int),allW a l ws=allW b l ws
 |[],_=>rfl
 |x::r,l=>by simp only[allW,okW,h,allW_congr h r x.1]
theorem setTo_valid{ps:List PR}{ws:List WE}{i:Nat}(hv:validP ps ws=true):validP (setTo ps i 0) ws=true:=by
 unfold validP at *;simp only[Bool.and_eq_true] at hv ⊢;obtain⟨⟨h1,h2⟩,h3⟩:=hv;refine⟨⟨by rw[setTo_len];exact h1,?_⟩,by rw[allW_congr (fun id=>setTo_idx id)];exact h3⟩;unfold allP at *;rw[List.all_eq_true] at *;intro j hj;rw[setTo_len] at hj;have h:=h2 j hj;have hprev:∀x,okPrev (setTo ps i 0) j x=okPrev ps j x:=fun x=>by
  cases j with
  |zero=>rfl
  |succ q=>
   show (match (setTo ps i 0)[q]? with|some y=>decide (y.1<x.1) && decide (y.2.1≤x.2.1)|none=>true)=(match ps[q]? with|some y=>decide (y.1<x.1) && decide (y.2.1≤x.2.1)|none=>true);rw[setTo_at];by_cases h:q=i
   ·rw[if_pos h];cases ps[q]?<;>rfl
   ·rw[if_neg h]
 rw[setTo_at];cases hx:ps[j]? with
 |none=>by_cases e:j=i<;>simp[e]
 |some x=>
  rw[hx] at h;simp only[okP,Bool.and_eq_true] at h;obtain⟨⟨⟨⟨a1,a2⟩,a3⟩,a4⟩,a5⟩:=h;have hp1:okPrev (setTo ps i 0) j (x.1,x.2.1,x.2.2.1,0)=true:=by
   rw[hprev,←a4];cases j<;>rfl
  by_cases e:j=i
  ·rw[if_pos e];show okP _ _ _=true;simp only[okP,a1,a2,a3,hp1,Bool.true_and];simp[okTo]
  ·rw[if_neg e];show okP _ _ _=true;simp only[okP,a1,a2,a3,hprev,a4,Bool.true_and];unfold okTo at *;rw[setTo_idx];exact a5
theorem setTo_back{ps:List PR}{i:Nat}{x:PR}(h:ps[i]? = some x):setTo (setTo ps i 0) i x.2.2.2=ps:=by
 apply List.ext_getElem?
 intro j;rw[setTo_at,setTo_at];by_cases e:j=i
 ·subst e;simp[h]
 ·simp[e]
theorem und_len(ps:List PR)(k m:Nat):(undL ps k m).length≤m:=by
 unfold undL;rw[List.length_map];exact Nat.le_trans (List.length_filter_le _ _) (by simp)
theorem hasI_und{ps:List PR}{ws:List WE}(h:ValidF ps ws){k j:Nat}(hj:j<ps.length):hasI (undL ps k ps.length) (idAt ps j)=ldN ps.length (toT ps) k j:=by
 have inj:∀a b,a<ps.length→b<ps.length→idAt ps a=idAt ps b→a=b:=fun a b ha hb e=>by
  rcases Nat.lt_trichotomy a b with h1|h1|h1
  ·have:=idQ_inc h b h1 hb;exact absurd e (by show idQ ps a≠idQ ps b;omega)
  ·exact h1
  ·have:=idQ_inc h a h1 ha;exact absurd e (by show idQ ps a≠idQ ps b;omega)
 rw[Bool.eq_iff_iff];unfold hasI undL;simp only[List.any_eq_true,beq_iff_eq,List.mem_map,List.mem_filter,List.mem_range];constructor
 ·rintro ⟨y,⟨q,⟨hq,hl⟩,rfl⟩,e⟩;rw[inj j q hj hq e];exact hl
 ·intro hl;exact⟨_,⟨j,⟨hj,hl⟩,rfl⟩,rfl⟩
/-- Where the parings of a pressing go. -/
def toQ (ps:List PR) (i:Nat):Int:=match ps[i]? with|some x=>x.2.2.2|none=>0
/-- What PressLed compares, of the pressings at places i and k. -/
structure LedF (ps:List PR) (ws:List WE) (i k:Nat):Prop where
 ld:leadS ps ws (idQ ps i) 0=((setTo ps i 0,ws),0)
 back:leadS (setTo ps i 0) ws (idQ ps i) (toQ ps i)=((ps,ws),0)
 val:validP (setTo ps i 0) ws=true
 u1:undE ps ws (idQ ps k)=0∧undS ps ws (idQ ps k)=undL ps k ps.length
 u2:undE ps ws (idQ ps i)=0∧undS ps ws (idQ ps i)=undL ps i ps.length
 u3:undE (setTo ps i 0) ws (idQ ps k)=0
 l3:(undS (setTo ps i 0) ws (idQ ps k)).length≤ps.length
 h1:∀j,j<ps.length→hasI (undL ps k ps.length) (idQ ps j)=ldN ps.length (toT ps) k j
 h2:∀j,j<ps.length→hasI (undL ps i ps.length) (idQ ps j)=ldN ps.length (toT ps) i j
 h3:∀j,j<ps.length→hasI (undS (setTo ps i 0) ws (idQ ps k)) (idQ ps j)=(ldN ps.length (toT ps) k j && !(ldN ps.length (toT ps) k i && (decide (j=i) || ldN ps.length (toT ps) i j)))
theorem led_law{ps:List PR}{ws:List WE}(hv:validP ps ws=true){i k:Nat}(hi:i<ps.length)(hk:k<ps.length):LedF ps ws i k:=by
 have hF:=valid_facts hv;have hv':=setTo_valid (i:=i) hv;have hF':=valid_facts hv';have ei:=idx_idQ hF hi;have ek:=idx_idQ hF hk;refine⟨?_,?_,hv',?_,?_,?_,?_,fun j hj=>hasI_und hF hj,fun j hj=>hasI_und hF hj,fun j hj=>?_⟩
 ·unfold leadS;rw[if_pos hv,ei,if_neg (by omega),if_pos (by simpa using hv')];rfl
 ·have e:setTo (setTo ps i 0) i (toQ ps i)=ps:=by
   have h:=List.getElem?_eq_getElem hi;have:toQ ps i=(ps[i]).2.2.2:=(by unfold toQ;rw[h]);rw[this];exact setTo_back h
  unfold leadS;rw[if_pos hv',setTo_idx,ei,if_neg (by omega),show ((i:Int).toNat)=i from rfl,e,if_pos hv]
 ·unfold undE undS;rw[if_pos hv,if_pos hv,ek,if_neg (by omega),if_neg (by omega)];exact⟨rfl,rfl⟩
 ·unfold undE undS;rw[if_pos hv,if_pos hv,ei,if_neg (by omega),if_neg (by omega)];exact⟨rfl,rfl⟩
 ·unfold undE;rw[if_pos hv',setTo_idx,ek,if_neg (by omega)]
 ·unfold undS;rw[if_pos hv',setTo_idx,ek,if_neg (by omega)];exact Nat.le_trans (und_len _ _ _) (by rw[setTo_len];exact Nat.le_refl _)
 ·have e:undS (setTo ps i 0) ws (idQ ps k)=undL (setTo ps i 0) k (setTo ps i 0).length:=(by unfold undS;rw[if_pos hv',setTo_idx,ek,if_neg (by omega)];rfl);have e2:=hasI_und hF' (k:=k) (j:=j) (by rw[setTo_len];exact hj);rw[setTo_idAt,setTo_len,setTo_T] at e2;rw[e,setTo_len];show hasI _ (idAt ps j)=_;rw[e2];exact led_cut hF.fwd hi ps.length j (by omega) hj
end Go.Proofs.YtfplipbkjglmhaaDoor

namespace Go.Proofs.YtfplipbkjglmhaaDoor
open Go.RowKit
set_option linter.unusedVariables false
set_option linter.unusedSimpArgs false
theorem facts44{x:World}{b:Nat}{c0 c1 c2 c3:Value}{t:TypeId}(h:x.heap[b]? = some (.cells #[c0,c1,c2,c3] t (0,0))) :
  x.cell? ⟨b,0,none⟩=some c0∧x.cell? ⟨b,1,none⟩=some c1∧x.cell? ⟨b,2,none⟩=some c2∧x.cell? ⟨b,3,none⟩=some c3∧x.frozen? ⟨b,0,none⟩=false∧x.frozen? ⟨b,1,none⟩=false∧x.frozen? ⟨b,2,none⟩=false∧x.frozen? ⟨b,3,none⟩=false:=by
 refine⟨?_,?_,?_,?_,?_,?_,?_,?_⟩<;>first|(simp[World.cell?,h];done)|(simp[World.frozen?,h];done)
theorem set4(y:World)(b:Nat)(t:TypeId)(v0 v1 v2 v3 c0 c1 c2 c3:Value)(h:y.heap[b]? = some (.cells #[c0,c1,c2,c3] t (0,0))) :
  ((((y.setCell ⟨b,0,none⟩ v0).setCell ⟨b,1,none⟩ v1).setCell ⟨b,2,none⟩ v2).setCell ⟨b,3,none⟩ v3).heap[b]? = some (.cells #[v0,v1,v2,v3] t (0,0)):=by
 simp[World.setCell,Array.getElem?_modify,h]
/-- What stands behind the pressing and the other one's number. -/
structure LD (w:World) (A A':Option Addr) (n c n' c':Nat) (ps:List PR) (ws:List WE) (xb:Nat) (I D P T:Int) (z:World):Prop extends PX w A A' n c n' c' ps ws z where
 bx:z.heap[xb]? = some (.cells #[.int .i64 I,.int .i64 D,.int .i64 P,.int .i64 T] 51 (0,0))
theorem LD.below{w z y:World}{A A':Option Addr}{n c n' c':Nat}{ps:List PR}{ws:List WE}{xb:Nat}{I D P T:Int}(h:LD w A A' n c n' c' ps ws xb I D P T z)(hb:Below z.heap.size z y):LD w A A' n c n' c' ps ws xb I D P T y:=
 ⟨h.toPX.below hb,keepO hb h.bx⟩
set_option maxRecDepth 100000 in
/-- Whether a list has a number. -/
theorem has_any(A:Option Addr)(n c:Nat)(l:List Int)(x:Int)(w:World)(hn:n≤maxLen)(hR:Reads w w.heap.size 1 A n (ints l)) :
  Calls Tryd.prog 34 #[.slice A n c,.int .i64 x] w fun e w'=>e = .returned (.bool (hasI l x))∧w'=w:=by
 have hl:l.length=n:=by simpa using hR.len
 have HR:=Lib.hid hR;have hlh:=Lib.hid hl;have hn64:(n:Int)≤9223372036854775807:=by unfold maxLen at hn;omega
 clear hR hl
 go_enter Tryd.func34,Tryd.ntmps34
 go_wp2_with fail
 go_loopw [9] (fun u wr=>∃wl,wl=wr∧wl=w∧∃t:Nat,t≤n∧u = .int .i64 t∧Hid (hasI (l.take t) x=false)) (fun u _=>n - (intOf u).toNat)
 case atStart=>exact⟨_,rfl,rfl,0,Nat.zero_le _,rfl,by show _=_;simp[hasI]⟩
 case round=>
  obtain⟨wq,rfl,hwq,t,ht,rfl,hf⟩:=hrel;subst hwq;by_cases htn:t<n
  ·have hti:(t:Int)<(n:Int):=(by omega);have ht0:(0:Int)≤(t:Int):=(by omega);obtain⟨b,o,hAl,hblt,hcell⟩:=HR.out.int htn;obtain⟨y,hy_⟩:∃y,y=l[t]?.getD 0:=⟨_,rfl⟩;rw[←hy_] at hcell;have hy:l[t]? = some y:=(by rw[hy_,List.getElem?_eq_getElem (by rw[hlh.out];exact htn)];rfl);have hnext:hasI (l.take (t+1)) x=(hasI (l.take t) x || (x==y)):=by
    unfold hasI;rw[List.take_add_one,hy];simp
   subst hAl;by_cases hxy:x=y
   ·have hr:Hid (hasI l x=true):=by
     show _=_;unfold hasI;rw[List.any_eq_true];exact⟨y,List.mem_of_getElem? hy,by simp[hxy]⟩
    have he:(y==x)=true:=(by simp[hxy]);clear hnext hy hy_ hxy;go_wp2;go_ret;exact⟨by rw[hr.out];rfl,rfl⟩
   ·have he:(y==x)=false:=(by simpa using fun h:y=x=>hxy h.symm);have hf2:Hid (hasI (l.take (t+1)) x=false):=(by show _=_;rw[hnext,hf.out];simpa using hxy);clear hnext hy hy_ hxy;go_wp2;go_roundw
    case rel=>exact⟨_,rfl,rfl,t+1,by omega,by go_num,hf2⟩
    case measure=>simp[intOf];omega
  ·obtain rfl:t=n:=(by omega);have hti:¬(t:Int)<(t:Int):=(by omega);have hr:Hid (hasI l x=false):=by
    show _=_;have h:=hf.out
    rwa [List.take_of_length_le (by rw[hlh.out];omega)] at h
   go_wp2;go_ret;exact⟨by rw[hr.out];rfl,rfl⟩
set_option maxRecDepth 100000 in
set_option maxHeartbeats 8000000 in
theorem law_led(A A':Option Addr)(n c n' c':Nat)(ps:List PR)(ws:List WE)(wh:Nat)(ot:Nat)(w:World)(hwh:wh≤255)(hot:ot≤255)(hnm:n≤maxLen)(hnm':n'≤maxLen)
  (hR:Reads w w.heap.size 4 A n (pgs ps)) (hW:Reads w w.heap.size 5 A' n' (wgs ws)) (hL:Laid w) :
  Calls Tryd.prog 7 #[.agg #[.slice A n c,.slice A' n' c'],.int .u8 wh,.int .u8 ot] w fun e w'=>e = .returned (.bool true)∧Below w.heap.size w w':=by
 have hl:ps.length=n:=hR.pg_len;have hl':ws.length=n':=hW.wg_len;have HX0:=Lib.hid (PX.start (c:=c) (c':=c') hR hW hL);have HAl:=Lib.hid (fun z (K:PX w A A' n c n' c' ps ws z)=>alive_any z K.laid);have HRy:=Lib.hid (fun z (K:PX w A A' n c n' c' ps ws z)=>ready_any A A' n c n' c' ps ws z hnm hnm' K.rp K.rw_);clear hR hW hL;obtain⟨g,hg_⟩:∃g,g=(!(decide (20<n) || decide (50<n')) && validP ps ws):=⟨_,rfl⟩;rw[←hg_] at HRy;have hg:=Lib.hid hg_;clear hg_;have hwh0:(0:Int)≤(wh:Int):=by omega
 have hwh1:(wh:Int)≤255:=by omega
 have hot0:(0:Int)≤(ot:Int):=by omega
 have hot1:(ot:Int)≤255:=by omega
 go_enter Tryd.func7,Tryd.ntmps7
 go_wp2_with fail
 refine(HAl.out _ HX0.out).mono ?_;rintro e z1 ⟨rfl,hb⟩;have HX1:=Lib.hid (HX0.out.below hb);clear hb HX0;obtain⟨p0,p1⟩:=HX1.out.cells;go_wp2_with fail
 clear p0 p1;refine(HRy.out _ HX1.out).mono ?_;rintro e z2 ⟨rfl,hb⟩;have HX2:=Lib.hid (HX1.out.below hb);clear hb HX1;cases g with
 |false=>
  go_wp2;go_ret;exact⟨rfl,HX2.out.bel⟩
 |true=>
 have hv:validP ps ws=true:=by have h:=hg.out;simp at h;exact h.2.symm ▸ rfl
 have hVF:=valid_facts hv;have hn10:n≤10:=by have:=hVF.n10;omega
 have hn30:n'≤30:=by have:=hVF.m30;omega
 clear hg HRy HAl;have hvh:=Lib.hid hv;obtain⟨p0,p1⟩:=HX2.out.cells;by_cases hn0:n=0
 ·have hz:((n:Int)==0)=true:=(by simp[hn0]);go_wp2;go_ret;exact⟨rfl,HX2.out.bel⟩
 have hz:((n:Int)==0)=false:=by simpa using hn0
 obtain⟨i,hi_⟩:∃i,i=wh%n:=⟨_,rfl⟩;obtain⟨k,hk_⟩:∃k,k=ot%n:=⟨_,rfl⟩;have hin:i<n:=by rw[hi_];exact Nat.mod_lt _ (by omega)
 have hkn:k<n:=by rw[hk_];exact Nat.mod_lt _ (by omega)
 have hrem:(wh:Int).tmod (n:Int)=(i:Int):=by rw[hi_];exact Int.ofNat_tmod wh n
 have hrem2:(ot:Int).tmod (n:Int)=(k:Int):=by rw[hk_];exact Int.ofNat_tmod ot n
 have hw1:IntKind.i64.wrap (wh:Int)=(wh:Int):=IntWalk.i64_in _ (by omega);have hw2':IntKind.i64.wrap (ot:Int)=(ot:Int):=IntWalk.i64_in _ (by omega);have hi0:(0:Int)≤(i:Int):=by omega
 have hi1:(i:Int)<(n:Int):=by omega
 have hk0:(0:Int)≤(k:Int):=by omega
 have hk1:(k:Int)<(n:Int):=by omega
 obtain⟨bp,op,I,D,P,T,hAe,hbp,hx,y0,y1,y2,y3⟩:=HX2.out.rp.pg hin;obtain⟨bp2,op2,I2,D2,P2,T2,hAe2,-,hx2,y4,-,-,-⟩:=HX2.out.rp.pg hkn;rw[hAe] at hAe2;simp only[Option.some.injEq,Addr.mk.injEq,and_true] at hAe2;obtain⟨rfl,rfl⟩:=hAe2;have hI:Hid (idQ ps i=I):=by show _=_;unfold idQ;rw[hx]
 have hI2:Hid (idQ ps k=I2):=by show _=_;unfold idQ;rw[hx2]
 have hTi:Hid (toQ ps i=T):=by show _=_;unfold toQ;rw[hx]
 subst hAe;clear hi_ hk_ hx hx2;have hLF:=Lib.hid (led_law hv (hl ▸ hin:i<ps.length) (hl ▸ hkn:k<ps.length));have hVh:=Lib.hid hVF;have hlh:=Lib.hid hl;have hw2:w.heap.size<z2.heap.size:=(Array.getElem?_eq_some_iff.1 HX2.out.b0).1;have HT:=HX2.out;have HQw:=Lib.hid (fun w' (hz:Hid (Kp z2.heap.size [] z2 w'))=>(⟨(hz.out.cell (by simp only;omega) (by simp;try omega)).trans p0,(hz.out.cell (by simp only;omega) (by simp;try omega)).trans p1,(hz.out.cell (by simp only;omega) (by simp;try omega)).trans y0,(hz.out.cell (by simp only;omega) (by simp;try omega)).trans y1,(hz.out.cell (by simp only;omega) (by simp;try omega)).trans y2,(hz.out.cell (by simp only;omega) (by simp;try omega)).trans y3,(hz.out.cell (by simp only;omega) (by simp;try omega)).trans y4⟩:w'.cell? ⟨w.heap.size,0,none⟩=some (.slice (some ⟨bp,op,none⟩) n c)∧w'.cell? ⟨w.heap.size,1,none⟩=some (.slice A' n' c')∧w'.cell? ⟨bp,op+i*4,none⟩=some (.int .i64 I)∧w'.cell? ⟨bp,op+i*4+1,none⟩=some (.int .i64 D)∧w'.cell? ⟨bp,op+i*4+2,none⟩=some (.int .i64 P)∧w'.cell? ⟨bp,op+i*4+3,none⟩=some (.int .i64 T)∧w'.cell? ⟨bp,op+k*4,none⟩=some (.int .i64 I2)));obtain⟨S,hSd⟩:∃S:World→Prop,S=fun w'=>(w'.cell? ⟨w.heap.size,0,none⟩=some (.slice (some ⟨bp,op,none⟩) n c)∧w'.cell? ⟨w.heap.size,1,none⟩=some (.slice A' n' c')∧w'.cell? ⟨bp,op+i*4,none⟩=some (.int .i64 I)∧w'.cell? ⟨bp,op+i*4+1,none⟩=some (.int .i64 D)∧w'.cell? ⟨bp,op+i*4+2,none⟩=some (.int .i64 P)∧w'.cell? ⟨bp,op+i*4+3,none⟩=some (.int .i64 T)∧w'.cell? ⟨bp,op+k*4,none⟩=some (.int .i64 I2))∧Hid (Kp z2.heap.size [] z2 w'):=⟨_,rfl⟩
 have HS:=Lib.hid (fun w' (hz:Hid (Kp z2.heap.size [] z2 w'))=>(by rw[hSd];exact⟨HQw.out w' hz,hz⟩:S w'));clear hv hVF hl hl' HQw;go_wp2_with fail
 clear p0 p1 y0 y1 y2 y3 y4 hz;refine wp_region_held_drew (S:=S) (by kernel_rfl) ?_ (fun hHeld=>?_)
 ·exact HS.out _ (Lib.hid (Kp.refl _ _ _).drew)
 have hKyd:Hid (Kp z2.heap.size [] z2 z2.drew):=Lib.hid (Kp.refl _ _ _).drew;have hSyd:z2.heap.size≤z2.drew.heap.size:=Nat.le_refl _;have HT:=HT.below (Below.refl z2.heap.size z2).drew;generalize z2.drew=yd at *;refine tY (v:=?_) 0 41 ?_ ?_;rotate_left
 ·intro w hSw;rw[hSd] at hSw;obtain⟨⟨q0,q1,q2,q3,q4,q5,q6⟩,-⟩:=hSw;go_simp;(try with_reducible rfl)
 try simp only[N0]
 refine tY (v:=?_) 1 42 ?_ ?_;rotate_left
 ·intro w hSw;rw[hSd] at hSw;obtain⟨⟨q0,q1,q2,q3,q4,q5,q6⟩,-⟩:=hSw;go_simp;(try with_reducible rfl)
 try simp only[N0]
 refine tY (v:=?_) 2 43 ?_ ?_;rotate_left
 ·intro w hSw;rw[hSd] at hSw;obtain⟨⟨q0,q1,q2,q3,q4,q5,q6⟩,-⟩:=hSw;go_simp;(try with_reducible rfl)
 try simp only[N0]
 refine tY (v:=?_) 3 44 ?_ ?_;rotate_left
 ·intro w hSw;rw[hSd] at hSw;obtain⟨⟨q0,q1,q2,q3,q4,q5,q6⟩,-⟩:=hSw;go_simp;(try with_reducible rfl)
 try simp only[N0]
 refine tY (v:=?_) 4 45 ?_ ?_;rotate_left
 ·intro w hSw;rw[hSd] at hSw;obtain⟨⟨q0,q1,q2,q3,q4,q5,q6⟩,-⟩:=hSw;go_simp;(try with_reducible rfl)
 try simp only[N0]
 refine tY (v:=?_) 5 46 ?_ ?_;rotate_left
 ·intro w hSw;rw[hSd] at hSw;obtain⟨⟨q0,q1,q2,q3,q4,q5,q6⟩,-⟩:=hSw;go_simp;(try with_reducible rfl)
 try simp only[N0]
 refine tY (v:=?_) 6 47 ?_ ?_;rotate_left
 ·intro w hSw;rw[hSd] at hSw;obtain⟨⟨q0,q1,q2,q3,q4,q5,q6⟩,-⟩:=hSw;go_simp;(try with_reducible rfl)
 try simp only[N0]
 refine tY (v:=?_) 7 48 ?_ ?_;rotate_left
 ·intro w hSw;rw[hSd] at hSw;obtain⟨⟨q0,q1,q2,q3,q4,q5,q6⟩,-⟩:=hSw;go_simp;(try with_reducible rfl)
 try simp only[N0]
 refine tY (v:=?_) 8 49 ?_ ?_;rotate_left
 ·intro w hSw;rw[hSd] at hSw;obtain⟨⟨q0,q1,q2,q3,q4,q5,q6⟩,-⟩:=hSw;go_simp;(try with_reducible rfl)
 try simp only[N0]
 refine tY (v:=?_) 9 50 ?_ ?_;rotate_left
 ·intro w hSw;rw[hSd] at hSw;obtain⟨⟨q0,q1,q2,q3,q4,q5,q6⟩,-⟩:=hSw;go_simp;(try with_reducible rfl)
 try simp only[N0]
 refine tY (v:=?_) 10 51 ?_ ?_;rotate_left
 ·intro w hSw;rw[hSd] at hSw;obtain⟨⟨q0,q1,q2,q3,q4,q5,q6⟩,-⟩:=hSw;go_simp;(try with_reducible rfl)
 try simp only[N0]
 refine tY (v:=?_) 11 52 ?_ ?_;rotate_left
 ·intro w hSw;rw[hSd] at hSw;obtain⟨⟨q0,q1,q2,q3,q4,q5,q6⟩,-⟩:=hSw;go_simp;(try with_reducible rfl)
 try simp only[N0]
 refine tY (v:=?_) 12 53 ?_ ?_;rotate_left
 ·intro w hSw;rw[hSd] at hSw;obtain⟨⟨q0,q1,q2,q3,q4,q5,q6⟩,-⟩:=hSw;go_simp;(try with_reducible rfl)
 try simp only[N0]
 refine tY (v:=?_) 13 54 ?_ ?_;rotate_left
 ·intro w hSw;rw[hSd] at hSw;obtain⟨⟨q0,q1,q2,q3,q4,q5,q6⟩,-⟩:=hSw;go_simp;(try with_reducible rfl)
 try simp only[N0]
 refine tY (v:=?_) 14 55 ?_ ?_;rotate_left
 ·intro w hSw;rw[hSd] at hSw;obtain⟨⟨q0,q1,q2,q3,q4,q5,q6⟩,-⟩:=hSw;go_simp;(try with_reducible rfl)
 try simp only[N0]
 refine tY (v:=?_) 15 56 ?_ ?_;rotate_left
 ·intro w hSw;rw[hSd] at hSw;obtain⟨⟨q0,q1,q2,q3,q4,q5,q6⟩,-⟩:=hSw;go_simp;(try with_reducible rfl)
 try simp only[N0]
 refine tY (v:=?_) 16 57 ?_ ?_;rotate_left
 ·intro w hSw;rw[hSd] at hSw;obtain⟨⟨q0,q1,q2,q3,q4,q5,q6⟩,-⟩:=hSw;go_simp;(try with_reducible rfl)
 try simp only[N0]
 refine tY (v:=?_) 17 58 ?_ ?_;rotate_left
 ·intro w hSw;rw[hSd] at hSw;obtain⟨⟨q0,q1,q2,q3,q4,q5,q6⟩,-⟩:=hSw;go_simp;(try with_reducible rfl)
 try simp only[N0]
 refine tY (v:=?_) 18 59 ?_ ?_;rotate_left
 ·intro w hSw;rw[hSd] at hSw;obtain⟨⟨q0,q1,q2,q3,q4,q5,q6⟩,-⟩:=hSw;go_simp;(try with_reducible rfl)
 try simp only[N0]
 refine tY (v:=?_) 19 60 ?_ ?_;rotate_left
 ·intro w hSw;rw[hSd] at hSw;obtain⟨⟨q0,q1,q2,q3,q4,q5,q6⟩,-⟩:=hSw;go_simp;(try with_reducible rfl)
 try simp only[N0]
 refine tY (v:=?_) 20 61 ?_ ?_;rotate_left
 ·intro w hSw;rw[hSd] at hSw;obtain⟨⟨q0,q1,q2,q3,q4,q5,q6⟩,-⟩:=hSw;go_simp;(try with_reducible rfl)
 try simp only[N0]
 refine wpAnyH_ready (rs:=[21]) (by kernel_rfl) (by simp) ?_;refine AllReadyH.cons (o:=_) rfl (fun Kq hK=>?_) AllReadyH.nil;go_simp;obtain⟨xb,hxb_⟩:∃q,q=yd.heap.size:=⟨_,rfl⟩;have hOx:=heap_alloc_new yd (.cells #[.int .i64 0,.int .i64 0,.int .i64 0,.int .i64 0] 51);have hxb:=hSyd;rw[←hxb_] at hOx hxb;have hb:=(Below.refl yd.heap.size yd).alloc (Nat.le_refl _) (.cells #[.int .i64 0,.int .i64 0,.int .i64 0,.int .i64 0] 51);have HT:=HT.below hb;have hKza:=Lib.hid (hKyd.out.alloc hSyd (.cells #[.int .i64 0,.int .i64 0,.int .i64 0,.int .i64 0] 51));have hSza:=Nat.le_trans hSyd hb.size;have hxz:xb<(yd.alloc (.cells #[.int .i64 0,.int .i64 0,.int .i64 0,.int .i64 0] 51)).heap.size:=(Array.getElem?_eq_some_iff.1 hOx).1;clear hb;generalize (yd.alloc (.cells #[.int .i64 0,.int .i64 0,.int .i64 0,.int .i64 0] 51))=za at *;refine hK.out _ _ ?_ (fun hHeld=>?_)
 ·exact HS.out _ hKza
 clear hK Kq;try simp only[N0]
 try rw[←hxb_]
 clear hxb_;refine wpAnyH_ready (rs:=[22]) (by kernel_rfl) (by simp) ?_;refine AllReadyH.cons (o:=_) rfl (fun Kq hK=>?_) AllReadyH.nil;obtain⟨e0,e1,e2,e3,g0,g1,g2,g3⟩:=facts44 hOx;go_simp;clear e0 e1 e2 e3 g0 g1 g2 g3;have hOx:=set4 za xb _ (.int .i64 I) (.int .i64 D) (.int .i64 P) (.int .i64 T) _ _ _ _ hOx;have hKzs:=Lib.hid ((((hKza.out.set (p:=⟨xb,0,none⟩) (Or.inr hxb) (.int .i64 I)).set (p:=⟨xb,1,none⟩) (Or.inr hxb) (.int .i64 D)).set (p:=⟨xb,2,none⟩) (Or.inr hxb) (.int .i64 P)).set (p:=⟨xb,3,none⟩) (Or.inr hxb) (.int .i64 T));obtain⟨zs,hz_⟩:∃z,z=((((za.setCell ⟨xb,0,none⟩ (.int .i64 I)).setCell ⟨xb,1,none⟩ (.int .i64 D)).setCell ⟨xb,2,none⟩ (.int .i64 P)).setCell ⟨xb,3,none⟩ (.int .i64 T)):=⟨_,rfl⟩;rw[←hz_];rw[←hz_] at hOx hKzs;have hSzs:=Nat.le_trans hSza (show za.heap.size≤zs.heap.size by rw[hz_];simp);clear hz_;refine hK.out _ _ ?_ (fun hHeld=>?_)
 ·exact HS.out _ hKzs
 clear hK Kq;try simp only[N0]
 refine tY (v:=?_) 23 9 ?_ ?_;rotate_left
 ·intro w hSw;rw[hSd] at hSw;obtain⟨⟨q0,q1,q2,q3,q4,q5,q6⟩,-⟩:=hSw;go_simp;(try with_reducible rfl)
 try simp only[N0]
 refine wpAnyH_done (by kernel_rfl) ?_ _;clear HS hSd;have HD_:LD w (some ⟨bp,op,none⟩) A' n c n' c' ps ws xb I D P T zs:=⟨HX2.out.below (hKzs.out.below (B':=z2.heap.size) (Nat.le_refl _) (by simp)),hOx⟩;have HD:=Lib.hid HD_;clear HD_ HT hOx hKzs;clear HX2;generalize zs=z3 at *;obtain⟨Lu,hLu_⟩:∃l,l=undL ps k ps.length:=⟨_,rfl⟩;obtain⟨Lo,hLo_⟩:∃l,l=undL ps i ps.length:=⟨_,rfl⟩;obtain⟨Ll,hLl_⟩:∃l,l=undS (setTo ps i 0) ws (idQ ps k):=⟨_,rfl⟩;obtain⟨tT,htT_⟩:∃t,t=toT ps:=⟨_,rfl⟩;obtain⟨f1,f1'⟩:=hLF.out.u1;obtain⟨f2,f2'⟩:=hLF.out.u2;have f3:=hLF.out.u3;have h1:=hLF.out.h1;have h2:=hLF.out.h2;have h3:=hLF.out.h3;have g1:Lu.length≤n:=by rw[hLu_,←hlh.out];exact und_len _ _ _
 have g2:Lo.length≤n:=by rw[hLo_,←hlh.out];exact und_len _ _ _
 have g3:Ll.length≤n:=by rw[hLl_,←hlh.out];exact hLF.out.l3
 have hld:=hLF.out.ld;have hbk:=hLF.out.back;have hpv:=hLF.out.val;have hsl:=setTo_len (ps:=ps) (i:=i) (q0:=0);rw[hlh.out] at hsl;rw[←hLu_] at f1' h1;rw[←hLo_] at f2' h2;rw[←hLl_] at h3;rw[hI2.out] at f1 f1' f3 hLl_;rw[hI.out] at f2 f2' hld hbk;rw[hTi.out] at hbk;rw[hlh.out,←htT_] at h1 h2 h3;have hH1:=Lib.hid h1;have hH2:=Lib.hid h2;have hH3:=Lib.hid h3;have hg1:=Lib.hid g1;have hg2:=Lib.hid g2;have hg3:=Lib.hid g3;have hldh:=Lib.hid hld;have hbkh:=Lib.hid hbk;have hpvh:=Lib.hid hpv;have hslh:=Lib.hid hsl;have htT:=Lib.hid htT_;have F1:=Lib.hid f1;have F1':=Lib.hid f1';have F2:=Lib.hid f2;have F2':=Lib.hid f2';have F3:=Lib.hid f3;have hLl:=Lib.hid hLl_;clear hLu_ hLo_ hLl_ htT_ f1 f1' f2 f2' f3 h1 h2 h3 g1 g2 g3 hld hbk hpv hsl hLF hrem hrem2 hw1 hw2';obtain⟨p0,p1⟩:=HD.out.cells;go_wp2_with fail
 clear p0 p1;have hU:=pUnder_any (some ⟨bp,op,none⟩) A' n c n' c' ps ws I2 z3 hnm HD.out.rp HD.out.rw_ HD.out.laid;rw[F1.out,F1'.out] at hU;refine hU.mono ?_;rintro e z4 ⟨⟨Au,mu,cu,rfl,hou⟩,hb⟩;replace HD:=Lib.hid (HD.out.below hb);have HRu:=Lib.hid (Reads.of_own hou);clear hb hou hU;obtain⟨p0,p1⟩:=HD.out.cells;obtain⟨x0,x1,x2,x3,-⟩:=facts44 HD.out.bx;go_wp2_with fail
 clear p0 p1 x0 x1 x2 x3;have hU:=pUnder_any (some ⟨bp,op,none⟩) A' n c n' c' ps ws I z4 hnm HD.out.rp HD.out.rw_ HD.out.laid;rw[F2.out,F2'.out] at hU;refine hU.mono ?_;rintro e z5 ⟨⟨Ao,mo,co,rfl,hoo⟩,hb⟩;replace HD:=Lib.hid (HD.out.below hb);replace HRu:=Lib.hid ((HRu.out.below hb).more hb.size);have HRo:=Lib.hid (Reads.of_own hoo);clear hb hoo hU;obtain⟨p0,p1⟩:=HD.out.cells;obtain⟨x0,x1,x2,x3,-⟩:=facts44 HD.out.bx;go_wp2_with fail
 clear p0 p1 x0 x1 x2 x3;have hU:=lead_any (some ⟨bp,op,none⟩) A' n c n' c' ps ws I 0 z5 hnm hnm' HD.out.rp HD.out.rw_ HD.out.laid;rw[hldh.out] at hU;refine hU.mono ?_;rintro e z6 ⟨⟨A1,n1,c1,A2,n2,c2,rfl,ho1,ho2⟩,hb⟩;replace HD:=Lib.hid (HD.out.below hb);replace HRu:=Lib.hid ((HRu.out.below hb).more hb.size);replace HRo:=Lib.hid ((HRo.out.below hb).more hb.size);have HR1:=Lib.hid (Reads.of_own ho1);have HR2:=Lib.hid (Reads.of_own ho2);obtain rfl:n=n1:=by have h:(setTo ps i 0).length=n1:=HR1.out.pg_len;rw[hslh.out] at h;exact h
 obtain rfl:n'=n2:=by have h:ws.length=n2:=HR2.out.wg_len;have h2:ws.length=n':=HD.out.rw_.wg_len;omega
 clear hb ho1 ho2 hU hldh;obtain⟨z7,hz9_⟩:∃z9,z9=z6.alloc (.cells #[.slice A1 n c1,.slice A2 n' c2] 25):=⟨_,rfl⟩;have hb:Below z6.heap.size z6 z7:=by rw[hz9_];exact(Below.refl _ _).alloc (Nat.le_refl _) _
 replace HD:=Lib.hid (HD.out.below hb);replace HRu:=Lib.hid ((HRu.out.below hb).more hb.size);replace HRo:=Lib.hid ((HRo.out.below hb).more hb.size);replace HR1:=Lib.hid ((HR1.out.below hb).more hb.size);replace HR2:=Lib.hid ((HR2.out.below hb).more hb.size);have hyb:=heap_alloc_new z6 (.cells #[.slice A1 n c1,.slice A2 n' c2] 25);rw[←hz9_] at hyb;have hz9:=Lib.hid hz9_;obtain⟨yb,hyb_⟩:∃yb,yb=z6.heap.size:=⟨_,rfl⟩;rw[←hyb_] at hyb;have hybe:=Lib.hid hyb_;obtain⟨q0,q1,-,-⟩:=two_facts hyb;rw[hz9.out,hybe.out] at q0 q1;have HY:=Lib.hid hyb;clear hb hz9_ hyb_ hyb;go_wp2_with fail
 clear q0 q1;rw[←hz9.out,←hybe.out];clear hz9 hybe;have hU:=pUnder_any A1 A2 n c1 n' c2 (setTo ps i 0) ws I2 z7 hnm HR1.out HR2.out HD.out.laid;rw[F3.out,←hLl.out] at hU;refine hU.mono ?_;rintro e z8 ⟨⟨Al,ml,cl,rfl,hol⟩,hb⟩;replace HD:=Lib.hid (HD.out.below hb);replace HRu:=Lib.hid ((HRu.out.below hb).more hb.size);replace HRo:=Lib.hid ((HRo.out.below hb).more hb.size);replace HR1:=Lib.hid ((HR1.out.below hb).more hb.size);replace HR2:=Lib.hid ((HR2.out.below hb).more hb.size);replace HY:=Lib.hid (keepO hb HY.out);have HRl:=Lib.hid (Reads.of_own hol);clear hb hol hU hLl F1 F1' F2 F2' F3;obtain⟨q0,q1,-,-⟩:=two_facts HY.out;go_wp2_with fail
 clear q0 q1;have hU:=ready_any A1 A2 n c1 n' c2 (setTo ps i 0) ws z8 hnm hnm' HR1.out HR2.out;rw[show (!(decide (20<n) || decide (50<n')) && validP (setTo ps i 0) ws)=true by rw[hpvh.out];simp;omega] at hU;refine hU.mono ?_;rintro e z9 ⟨rfl,hb⟩;replace HD:=Lib.hid (HD.out.below hb);replace HRu:=Lib.hid ((HRu.out.below hb).more hb.size);replace HRo:=Lib.hid ((HRo.out.below hb).more hb.size);replace HRl:=Lib.hid ((HRl.out.below hb).more hb.size);replace HR1:=Lib.hid ((HR1.out.below hb).more hb.size);replace HR2:=Lib.hid ((HR2.out.below hb).more hb.size);replace HY:=Lib.hid (keepO hb HY.out);clear hb hU hpvh;have hmu:mu≤n:=by have h:=HRu.out.len;have h2:=hg1.out;simp at h;omega
 have hmo:mo≤n:=by have h:=HRo.out.len;have h2:=hg2.out;simp at h;omega
 have hml:ml≤n:=by have h:=HRl.out.len;have h2:=hg3.out;simp at h;omega
 have HPg:=Lib.hid (fun id z (X:PX w (some ⟨bp,op,none⟩) A' n c n' c' ps ws z)=>Pressing_any (some ⟨bp,op,none⟩) A' n c n' c' ps id z hnm X.rp);have hidx:=Lib.hid (fun j (hj:j<n)=>idx_idQ hVh.out (hlh.out ▸ hj:j<ps.length));have hFw:=Lib.hid (hlh.out ▸ hVh.out.fwd:Fwd n (toT ps));clear hg1 hg2 hg3;obtain⟨p0,p1⟩:=HD.out.cells;obtain⟨x0,x1,x2,x3,-⟩:=facts44 HD.out.bx;go_wp2_with fail
 clear p0 p1 x0 x1 x2 x3;have hii:idxP ps I=i:=by rw[←hI.out];exact hidx.out i hin
 have hP0:=HPg.out I z9 HD.out.toPX;rw[hii] at hP0;refine hP0.mono ?_;rintro e z10 ⟨rfl,hb⟩;replace HD:=Lib.hid (HD.out.below hb);replace HRu:=Lib.hid ((HRu.out.below hb).more hb.size);replace HRo:=Lib.hid ((HRo.out.below hb).more hb.size);replace HRl:=Lib.hid ((HRl.out.below hb).more hb.size);replace HR1:=Lib.hid ((HR1.out.below hb).more hb.size);replace HR2:=Lib.hid ((HR2.out.below hb).more hb.size);replace HY:=Lib.hid (keepO hb HY.out);clear hb hP0 hii;have HB0:=Lib.hid (Below.refl z10.heap.size z10);obtain⟨ld,hld_⟩:∃b,b=ldN n tT k i:=⟨_,rfl⟩;have hld:=Lib.hid hld_;clear hld_;go_wp2_with fail
 go_loopw [19,20] (fun v u wr=>∃wl,wl=wr∧∃(q:Nat) (b:Bool),q<n∧v = .int .i64 q∧u = .bool b∧Hid ((b || ldN n tT k q)=ld)∧Hid (Below z10.heap.size z10 wl)) (fun v _ _=>n - (intOf v).toNat)
 case atStart=>exact⟨_,rfl,i,false,hin,rfl,rfl,Lib.hid (by rw[hld.out];simp),HB0⟩
 case round=>
  obtain⟨wq,rfl,q,b,hqn,rfl,rfl,hbq,HBq⟩:=hrel;have HT:=HD.out.below HBq.out;obtain⟨bp3,op3,Iq,Dq,Pq,Tq,hA3,hbpq,hxq,y0,y1,y2,y3⟩:=HT.rp.pg hqn;simp only[Option.some.injEq,Addr.mk.injEq,and_true] at hA3;obtain⟨rfl,rfl⟩:=hA3;obtain⟨p0,p1⟩:=HT.cells;have hq0:(0:Int)≤(q:Int):=(by omega);have hq1:(q:Int)<(n:Int):=(by omega);by_cases hT0:Tq=0
  ·have hTz:(Tq != 0)=false:=(by simp[hT0]);have hnone:tT q=none:=(by rw[htT.out];unfold toT;rw[hxq];simp[hT0]);have hbld:b=ld:=(by have h:=hbq.out;rw[ldN_none hqn hnone] at h;simpa using h);clear hbq hnone hxq hT0;have HD2:=Lib.hid HT;replace HRu:=Lib.hid ((HRu.out.below HBq.out).more HBq.out.size);replace HRo:=Lib.hid ((HRo.out.below HBq.out).more HBq.out.size);replace HRl:=Lib.hid ((HRl.out.below HBq.out).more HBq.out.size);replace HR1:=Lib.hid ((HR1.out.below HBq.out).more HBq.out.size);replace HR2:=Lib.hid ((HR2.out.below HBq.out).more HBq.out.size);replace HY:=Lib.hid (keepO HBq.out HY.out);subst hbld;obtain⟨x0,x1,x2,x3,-⟩:=facts44 HT.bx;have hha:=has_any Au mu cu Lu I wq (by unfold maxLen;omega) HRu.out;rw[show hasI Lu I=b by rw[←hI.out,hH1.out i hin,hld.out]] at hha;have hhah:=Lib.hid hha;have hbb:(b != b)=false:=(by simp);clear hha HD HT HB0 HBq y0 y1 y2;(go_wp2_with fail);clear p0 p1 x0 x1 x2 x3 y3 hTz;refine hhah.out.mono ?_;rintro e z11 ⟨rfl,hz11⟩;subst hz11;clear hhah;have HB0:=Lib.hid (Below.refl z11.heap.size z11);obtain⟨p0,p1⟩:=HD2.out.cells;(go_wp2_with fail);clear p0 p1;go_loopw [147] (fun u wr=>∃wl,wl=wr∧∃j:Nat,j≤n∧u = .int .i64 j∧Hid (Below z11.heap.size z11 wl)) (fun u _=>n - (intOf u).toNat)
   case atStart=>exact⟨_,rfl,0,Nat.zero_le _,rfl,HB0⟩
   case round=>
    obtain⟨wj,rfl,j,hj_,rfl,HBj⟩:=hrel;have HJ:=Lib.hid (HD2.out.below HBj.out);by_cases hjn:j<n
    ·have hji:(j:Int)<(n:Int):=(by omega);have hj0:(0:Int)≤(j:Int):=(by omega);obtain⟨bp4,op4,Ij,Dj,Pj,Tj,hA4,hbpj,hxj,y0,y1,y2,y3⟩:=HJ.out.rp.pg hjn;simp only[Option.some.injEq,Addr.mk.injEq,and_true] at hA4;obtain⟨rfl,rfl⟩:=hA4;have hIj:Hid (idQ ps j=Ij):=(by show _=_;unfold idQ;rw[hxj]);have hbk:Below wj.heap.size wj (wj.alloc (.cells #[.int .i64 Ij,.int .i64 Dj,.int .i64 Pj,.int .i64 Tj] 51)):=(Below.refl _ _).alloc (Nat.le_refl _) _;have hXk:=heap_alloc_new wj (.cells #[.int .i64 Ij,.int .i64 Dj,.int .i64 Pj,.int .i64 Tj] 51);obtain⟨wk,hwk_⟩:∃wk,wk=wj.alloc (.cells #[.int .i64 Ij,.int .i64 Dj,.int .i64 Pj,.int .i64 Tj] 51):=⟨_,rfl⟩;obtain⟨zb,hzb_⟩:∃zb,zb=wj.heap.size:=⟨_,rfl⟩;rw[←hwk_] at hbk hXk;rw[←hzb_] at hXk;have HK:=Lib.hid (HJ.out.below hbk);have HBk:=Lib.hid (below_via HBj.out HBj.out.size hbk);have HHu:=Lib.hid (fun z (hz:Below z11.heap.size z11 z)=>has_any Au mu cu Lu Ij z (by unfold maxLen;omega) ((HRu.out.below hz).more hz.size));have HHl:=Lib.hid (fun z (hz:Below z11.heap.size z11 z)=>has_any Al ml cl Ll Ij z (by unfold maxLen;omega) ((HRl.out.below hz).more hz.size));have HHo:=Lib.hid (has_any Ao mo co Lo Ij wk (by unfold maxLen;omega) ((HRo.out.below HBk.out).more HBk.out.size));have e1:=hH1.out j hjn;have e2:=hH2.out j hjn;have e3:=hH3.out j hjn;rw[hIj.out] at e1 e2 e3;rw[←hld.out,←e1,←e2] at e3;obtain⟨a1,ha1⟩:∃a,a=hasI Lu Ij:=⟨_,rfl⟩;obtain⟨a2,ha2⟩:∃a,a=hasI Lo Ij:=⟨_,rfl⟩;obtain⟨a3,ha3⟩:∃a,a=hasI Ll Ij:=⟨_,rfl⟩
     rw[←ha1] at HHu e3;rw[←ha2] at HHo e3;rw[←ha3] at HHl e3;have hji':(Ij=I)↔j=i:=by
      constructor
      ·intro h;have hj2:=hidx.out j hjn;have hi2:=hidx.out i hin;rw[hIj.out,h,←hI.out,hi2] at hj2;omega
      ·rintro rfl;rw[←hIj.out,hI.out]
     have he3:=Lib.hid e3;have hjih:=Lib.hid hji';obtain⟨p0,p1⟩:=HK.out.cells;obtain⟨x0,x1,x2,x3,-⟩:=facts44 HK.out.bx;obtain⟨k0,k1,k2,k3,-⟩:=facts44 hXk;have hwk:=Lib.hid hwk_;have hzb:=Lib.hid hzb_;have HXk:=Lib.hid hXk;rw[hwk_] at p0 p1 x0 x1 x2 x3 k0 k1 k2 k3;rw[hzb_] at k0 k1 k2 k3;clear hwk_ hzb_ ha1 ha2 ha3 e1 e2 e3 hji' hxj hIj hbk hXk;rcases b with _|_
     ·cases a1 with
      |false=>
       obtain rfl:a3=false:=(by rw[he3.out];simp);clear he3;(go_wp2_with fail);clear p0 p1 x0 x1 x2 x3 k0 k1 k2 k3;rw[←hwk.out,←hzb.out];clear hwk hzb;obtain⟨k0,-,-,-,-⟩:=facts44 HXk.out;have hzbk:zb<wk.heap.size:=(Array.getElem?_eq_some_iff.1 HXk.out).1;have HQw:=Lib.hid (fun w' (hz:Hid (Kp wk.heap.size [] wk w'))=>((hz.out.cell (by simp only;omega) (by simp;try omega)).trans k0:w'.cell? ⟨zb,0,none⟩=some (.int .i64 Ij)));obtain⟨S,hSd⟩:∃S:World→Prop,S=fun w'=>(w'.cell? ⟨zb,0,none⟩=some (.int .i64 Ij))∧Hid (Kp wk.heap.size [] wk w'):=⟨_,rfl⟩
       have HS:=Lib.hid (fun w' (hz:Hid (Kp wk.heap.size [] wk w'))=>(by rw[hSd];exact⟨HQw.out w' hz,hz⟩:S w'));clear HQw k0;refine wp_region_held_drew (S:=S) (by kernel_rfl) ?_ (fun hHeld=>?_)
       ·exact HS.out _ (Lib.hid (Kp.refl _ _ _).drew)
       have hKyd:Hid (Kp wk.heap.size [] wk wk.drew):=Lib.hid (Kp.refl _ _ _).drew;have hSyd:wk.heap.size≤wk.drew.heap.size:=Nat.le_refl _;have HBy:=below_via HBk.out HBk.out.size (Below.refl wk.heap.size wk).drew;generalize wk.drew=yd at *;refine tY (v:=?_) 0 166 ?_ ?_;rotate_left
       ·intro w hSw;rw[hSd] at hSw;obtain⟨q0,-⟩:=hSw;go_simp;(try with_reducible rfl)
       (try simp only[N0]);refine tY (v:=?_) 1 167 ?_ ?_;rotate_left
       ·intro w hSw;rw[hSd] at hSw;obtain⟨q0,-⟩:=hSw;go_simp;(try with_reducible rfl)
       (try simp only[N0]);refine tY (v:=?_) 2 168 ?_ ?_;rotate_left
       ·intro w hSw;rw[hSd] at hSw;obtain⟨q0,-⟩:=hSw;go_simp;(try with_reducible rfl)
       (try simp only[N0]);refine tY (v:=?_) 3 169 ?_ ?_;rotate_left
       ·intro w hSw;rw[hSd] at hSw;obtain⟨q0,-⟩:=hSw;go_simp;(try with_reducible rfl)
       (try simp only[N0]);refine tY (v:=?_) 5 171 ?_ ?_;rotate_left
       ·intro w hSw;rw[hSd] at hSw;obtain⟨q0,-⟩:=hSw;go_simp;(try with_reducible rfl)
       (try simp only[N0]);refine tY (v:=?_) 6 172 ?_ ?_;rotate_left
       ·intro w hSw;rw[hSd] at hSw;obtain⟨q0,-⟩:=hSw;go_simp;(try with_reducible rfl)
       (try simp only[N0]);refine tY (v:=?_) 7 173 ?_ ?_;rotate_left
       ·intro w hSw;rw[hSd] at hSw;obtain⟨q0,-⟩:=hSw;go_simp;(try with_reducible rfl)
       (try simp only[N0]);refine tY (v:=?_) 8 174 ?_ ?_;rotate_left
       ·intro w hSw;rw[hSd] at hSw;obtain⟨q0,-⟩:=hSw;go_simp;(try with_reducible rfl)
       (try simp only[N0]);refine wpAnyH_ready (rs:=[4]) (by kernel_rfl) (by simp) ?_;refine AllReadyH.cons (o:=_) rfl (fun Kq hK=>?_) AllReadyH.nil;go_simp;refine(HHl.out yd HBy).mono ?_;rintro e zz ⟨rfl,hzz⟩;obtain rfl:=hzz.symm;clear hzz;(try go_simp);refine hK.out _ _ ?_ (fun hHeld=>?_)
       ·exact HS.out _ hKyd
       clear hK Kq;(try simp only[N0]);refine wpAnyH_ready (rs:=[9]) (by kernel_rfl) (by simp) ?_;refine AllReadyH.cons (o:=_) rfl (fun Kq hK=>?_) AllReadyH.nil;go_simp;refine(HHu.out yd HBy).mono ?_;rintro e zz ⟨rfl,hzz⟩;obtain rfl:=hzz.symm;clear hzz;(try go_simp);refine hK.out _ _ ?_ (fun hHeld=>?_)
       ·exact HS.out _ hKyd
       clear hK Kq;(try simp only[N0]);refine tY (v:=?_) 10 176 ?_ ?_;rotate_left
       ·intro w hSw;rw[hSd] at hSw;obtain⟨q0,-⟩:=hSw;go_simp;(try with_reducible rfl)
       (try simp only[N0]);refine tN 11 177 ?_;(try simp only[N0]);refine tN 12 178 ?_;(try simp only[N0]);refine tY (v:=?_) 13 179 ?_ ?_;rotate_left
       ·intro w hSw;rw[hSd] at hSw;obtain⟨q0,-⟩:=hSw;go_simp;(try with_reducible rfl)
       (try simp only[N0]);refine tY (v:=?_) 14 180 ?_ ?_;rotate_left
       ·intro w hSw;rw[hSd] at hSw;obtain⟨q0,-⟩:=hSw;go_simp;(try with_reducible rfl)
       (try simp only[N0]);refine wpAnyH_done (by kernel_rfl) ?_ _;clear HS hSd;have HBz:=Lib.hid HBy;clear hKyd;generalize yd=wy at *;go_wp2;go_roundw
       case rel=>exact⟨_,rfl,j+1,by omega,by go_num,HBz⟩
       case measure=>simp[intOf];omega
      |true=>
       obtain rfl:a3=true:=(by rw[he3.out];simp);clear he3;(go_wp2_with fail);clear p0 p1 x0 x1 x2 x3 k0 k1 k2 k3;rw[←hwk.out,←hzb.out];clear hwk hzb;obtain⟨k0,-,-,-,-⟩:=facts44 HXk.out;have hzbk:zb<wk.heap.size:=(Array.getElem?_eq_some_iff.1 HXk.out).1;have HQw:=Lib.hid (fun w' (hz:Hid (Kp wk.heap.size [] wk w'))=>((hz.out.cell (by simp only;omega) (by simp;try omega)).trans k0:w'.cell? ⟨zb,0,none⟩=some (.int .i64 Ij)));obtain⟨S,hSd⟩:∃S:World→Prop,S=fun w'=>(w'.cell? ⟨zb,0,none⟩=some (.int .i64 Ij))∧Hid (Kp wk.heap.size [] wk w'):=⟨_,rfl⟩
       have HS:=Lib.hid (fun w' (hz:Hid (Kp wk.heap.size [] wk w'))=>(by rw[hSd];exact⟨HQw.out w' hz,hz⟩:S w'));clear HQw k0;refine wp_region_held_drew (S:=S) (by kernel_rfl) ?_ (fun hHeld=>?_)
       ·exact HS.out _ (Lib.hid (Kp.refl _ _ _).drew)
       have hKyd:Hid (Kp wk.heap.size [] wk wk.drew):=Lib.hid (Kp.refl _ _ _).drew;have hSyd:wk.heap.size≤wk.drew.heap.size:=Nat.le_refl _;have HBy:=below_via HBk.out HBk.out.size (Below.refl wk.heap.size wk).drew;generalize wk.drew=yd at *;refine tY (v:=?_) 0 166 ?_ ?_;rotate_left
       ·intro w hSw;rw[hSd] at hSw;obtain⟨q0,-⟩:=hSw;go_simp;(try with_reducible rfl)
       (try simp only[N0]);refine tY (v:=?_) 1 167 ?_ ?_;rotate_left
       ·intro w hSw;rw[hSd] at hSw;obtain⟨q0,-⟩:=hSw;go_simp;(try with_reducible rfl)
       (try simp only[N0]);refine tY (v:=?_) 2 168 ?_ ?_;rotate_left
       ·intro w hSw;rw[hSd] at hSw;obtain⟨q0,-⟩:=hSw;go_simp;(try with_reducible rfl)
       (try simp only[N0]);refine tY (v:=?_) 3 169 ?_ ?_;rotate_left
       ·intro w hSw;rw[hSd] at hSw;obtain⟨q0,-⟩:=hSw;go_simp;(try with_reducible rfl)
       (try simp only[N0]);refine tY (v:=?_) 5 171 ?_ ?_;rotate_left
       ·intro w hSw;rw[hSd] at hSw;obtain⟨q0,-⟩:=hSw;go_simp;(try with_reducible rfl)
       (try simp only[N0]);refine tY (v:=?_) 6 172 ?_ ?_;rotate_left
       ·intro w hSw;rw[hSd] at hSw;obtain⟨q0,-⟩:=hSw;go_simp;(try with_reducible rfl)
       (try simp only[N0]);refine tY (v:=?_) 7 173 ?_ ?_;rotate_left
       ·intro w hSw;rw[hSd] at hSw;obtain⟨q0,-⟩:=hSw;go_simp;(try with_reducible rfl)
       (try simp only[N0]);refine tY (v:=?_) 8 174 ?_ ?_;rotate_left
       ·intro w hSw;rw[hSd] at hSw;obtain⟨q0,-⟩:=hSw;go_simp;(try with_reducible rfl)
       (try simp only[N0]);refine wpAnyH_ready (rs:=[4]) (by kernel_rfl) (by simp) ?_;refine AllReadyH.cons (o:=_) rfl (fun Kq hK=>?_) AllReadyH.nil;go_simp;refine(HHl.out yd HBy).mono ?_;rintro e zz ⟨rfl,hzz⟩;obtain rfl:=hzz.symm;clear hzz;(try go_simp);refine hK.out _ _ ?_ (fun hHeld=>?_)
       ·exact HS.out _ hKyd
       clear hK Kq;(try simp only[N0]);refine wpAnyH_ready (rs:=[9]) (by kernel_rfl) (by simp) ?_;refine AllReadyH.cons (o:=_) rfl (fun Kq hK=>?_) AllReadyH.nil;go_simp;refine(HHu.out yd HBy).mono ?_;rintro e zz ⟨rfl,hzz⟩;obtain rfl:=hzz.symm;clear hzz;(try go_simp);refine hK.out _ _ ?_ (fun hHeld=>?_)
       ·exact HS.out _ hKyd
       clear hK Kq;(try simp only[N0]);refine tY (v:=?_) 10 176 ?_ ?_;rotate_left
       ·intro w hSw;rw[hSd] at hSw;obtain⟨q0,-⟩:=hSw;go_simp;(try with_reducible rfl)
       (try simp only[N0]);refine tY (v:=?_) 11 177 ?_ ?_;rotate_left
       ·intro w hSw;rw[hSd] at hSw;obtain⟨q0,-⟩:=hSw;go_simp;(try with_reducible rfl)
       (try simp only[N0]);refine tY (v:=?_) 12 178 ?_ ?_;rotate_left
       ·intro w hSw;rw[hSd] at hSw;obtain⟨q0,-⟩:=hSw;go_simp;(try with_reducible rfl)
       (try simp only[N0]);refine tY (v:=?_) 13 179 ?_ ?_;rotate_left
       ·intro w hSw;rw[hSd] at hSw;obtain⟨q0,-⟩:=hSw;go_simp;(try with_reducible rfl)
       (try simp only[N0]);refine tY (v:=?_) 14 180 ?_ ?_;rotate_left
       ·intro w hSw;rw[hSd] at hSw;obtain⟨q0,-⟩:=hSw;go_simp;(try with_reducible rfl)
       (try simp only[N0]);refine wpAnyH_done (by kernel_rfl) ?_ _;clear HS hSd;have HBz:=Lib.hid HBy;clear hKyd;generalize yd=wy at *;go_wp2;go_roundw
       case rel=>exact⟨_,rfl,j+1,by omega,by go_num,HBz⟩
       case measure=>simp[intOf];omega
     ·by_cases hjI:Ij=I
      ·have hdi:decide (j=i)=true:=(by simpa using hjih.out.1 hjI);have hIe:(Ij==I)=true:=(by simpa using hjI);obtain rfl:a3=false:=(by rw[he3.out,hdi];simp);clear hdi hjI;cases a1 with
       |false=>
        clear he3;(go_wp2_with fail);clear p0 p1 x0 x1 x2 x3 k0 k1 k2 k3;rw[←hwk.out,←hzb.out];clear hwk hzb;obtain⟨k0,-,-,-,-⟩:=facts44 HXk.out;have hzbk:zb<wk.heap.size:=(Array.getElem?_eq_some_iff.1 HXk.out).1;have HQw:=Lib.hid (fun w' (hz:Hid (Kp wk.heap.size [] wk w'))=>((hz.out.cell (by simp only;omega) (by simp;try omega)).trans k0:w'.cell? ⟨zb,0,none⟩=some (.int .i64 Ij)));obtain⟨S,hSd⟩:∃S:World→Prop,S=fun w'=>(w'.cell? ⟨zb,0,none⟩=some (.int .i64 Ij))∧Hid (Kp wk.heap.size [] wk w'):=⟨_,rfl⟩
        have HS:=Lib.hid (fun w' (hz:Hid (Kp wk.heap.size [] wk w'))=>(by rw[hSd];exact⟨HQw.out w' hz,hz⟩:S w'));clear HQw k0;refine wp_region_held_drew (S:=S) (by kernel_rfl) ?_ (fun hHeld=>?_)
        ·exact HS.out _ (Lib.hid (Kp.refl _ _ _).drew)
        have hKyd:Hid (Kp wk.heap.size [] wk wk.drew):=Lib.hid (Kp.refl _ _ _).drew;have hSyd:wk.heap.size≤wk.drew.heap.size:=Nat.le_refl _;have HBy:=below_via HBk.out HBk.out.size (Below.refl wk.heap.size wk).drew;generalize wk.drew=yd at *;refine tY (v:=?_) 0 166 ?_ ?_;rotate_left
        ·intro w hSw;rw[hSd] at hSw;obtain⟨q0,-⟩:=hSw;go_simp;(try with_reducible rfl)
        (try simp only[N0]);refine tY (v:=?_) 1 167 ?_ ?_;rotate_left
        ·intro w hSw;rw[hSd] at hSw;obtain⟨q0,-⟩:=hSw;go_simp;(try with_reducible rfl)
        (try simp only[N0]);refine tY (v:=?_) 2 168 ?_ ?_;rotate_left
        ·intro w hSw;rw[hSd] at hSw;obtain⟨q0,-⟩:=hSw;go_simp;(try with_reducible rfl)
        (try simp only[N0]);refine tY (v:=?_) 3 169 ?_ ?_;rotate_left
        ·intro w hSw;rw[hSd] at hSw;obtain⟨q0,-⟩:=hSw;go_simp;(try with_reducible rfl)
        (try simp only[N0]);refine tY (v:=?_) 5 171 ?_ ?_;rotate_left
        ·intro w hSw;rw[hSd] at hSw;obtain⟨q0,-⟩:=hSw;go_simp;(try with_reducible rfl)
        (try simp only[N0]);refine tY (v:=?_) 6 172 ?_ ?_;rotate_left
        ·intro w hSw;rw[hSd] at hSw;obtain⟨q0,-⟩:=hSw;go_simp;(try with_reducible rfl)
        (try simp only[N0]);refine tY (v:=?_) 7 173 ?_ ?_;rotate_left
        ·intro w hSw;rw[hSd] at hSw;obtain⟨q0,-⟩:=hSw;go_simp;(try with_reducible rfl)
        (try simp only[N0]);refine tY (v:=?_) 8 174 ?_ ?_;rotate_left
        ·intro w hSw;rw[hSd] at hSw;obtain⟨q0,-⟩:=hSw;go_simp;(try with_reducible rfl)
        (try simp only[N0]);refine wpAnyH_ready (rs:=[4]) (by kernel_rfl) (by simp) ?_;refine AllReadyH.cons (o:=_) rfl (fun Kq hK=>?_) AllReadyH.nil;go_simp;refine(HHl.out yd HBy).mono ?_;rintro e zz ⟨rfl,hzz⟩;obtain rfl:=hzz.symm;clear hzz;(try go_simp);refine hK.out _ _ ?_ (fun hHeld=>?_)
        ·exact HS.out _ hKyd
        clear hK Kq;(try simp only[N0]);refine wpAnyH_ready (rs:=[9]) (by kernel_rfl) (by simp) ?_;refine AllReadyH.cons (o:=_) rfl (fun Kq hK=>?_) AllReadyH.nil;go_simp;refine(HHu.out yd HBy).mono ?_;rintro e zz ⟨rfl,hzz⟩;obtain rfl:=hzz.symm;clear hzz;(try go_simp);refine hK.out _ _ ?_ (fun hHeld=>?_)
        ·exact HS.out _ hKyd
        clear hK Kq;(try simp only[N0]);refine tY (v:=?_) 10 176 ?_ ?_;rotate_left
        ·intro w hSw;rw[hSd] at hSw;obtain⟨q0,-⟩:=hSw;go_simp;(try with_reducible rfl)
        (try simp only[N0]);refine tN 11 177 ?_;(try simp only[N0]);refine tN 12 178 ?_;(try simp only[N0]);refine tY (v:=?_) 13 179 ?_ ?_;rotate_left
        ·intro w hSw;rw[hSd] at hSw;obtain⟨q0,-⟩:=hSw;go_simp;(try with_reducible rfl)
        (try simp only[N0]);refine tY (v:=?_) 14 180 ?_ ?_;rotate_left
        ·intro w hSw;rw[hSd] at hSw;obtain⟨q0,-⟩:=hSw;go_simp;(try with_reducible rfl)
        (try simp only[N0]);refine wpAnyH_done (by kernel_rfl) ?_ _;clear HS hSd;have HBz:=Lib.hid HBy;clear hKyd;generalize yd=wy at *;go_wp2;go_roundw
        case rel=>exact⟨_,rfl,j+1,by omega,by go_num,HBz⟩
        case measure=>simp[intOf];omega
       |true=>
        clear he3;(go_wp2_with fail);clear p0 p1 x0 x1 x2 x3 k0 k1 k2 k3;rw[←hwk.out,←hzb.out];clear hwk hzb;obtain⟨k0,-,-,-,-⟩:=facts44 HXk.out;have hzbk:zb<wk.heap.size:=(Array.getElem?_eq_some_iff.1 HXk.out).1;have HQw:=Lib.hid (fun w' (hz:Hid (Kp wk.heap.size [] wk w'))=>((hz.out.cell (by simp only;omega) (by simp;try omega)).trans k0:w'.cell? ⟨zb,0,none⟩=some (.int .i64 Ij)));obtain⟨S,hSd⟩:∃S:World→Prop,S=fun w'=>(w'.cell? ⟨zb,0,none⟩=some (.int .i64 Ij))∧Hid (Kp wk.heap.size [] wk w'):=⟨_,rfl⟩
        have HS:=Lib.hid (fun w' (hz:Hid (Kp wk.heap.size [] wk w'))=>(by rw[hSd];exact⟨HQw.out w' hz,hz⟩:S w'));clear HQw k0;refine wp_region_held_drew (S:=S) (by kernel_rfl) ?_ (fun hHeld=>?_)
        ·exact HS.out _ (Lib.hid (Kp.refl _ _ _).drew)
        have hKyd:Hid (Kp wk.heap.size [] wk wk.drew):=Lib.hid (Kp.refl _ _ _).drew;have hSyd:wk.heap.size≤wk.drew.heap.size:=Nat.le_refl _;have HBy:=below_via HBk.out HBk.out.size (Below.refl wk.heap.size wk).drew;generalize wk.drew=yd at *;refine tY (v:=?_) 0 166 ?_ ?_;rotate_left
        ·intro w hSw;rw[hSd] at hSw;obtain⟨q0,-⟩:=hSw;go_simp;(try with_reducible rfl)
        (try simp only[N0]);refine tY (v:=?_) 1 167 ?_ ?_;rotate_left
        ·intro w hSw;rw[hSd] at hSw;obtain⟨q0,-⟩:=hSw;go_simp;(try with_reducible rfl)
        (try simp only[N0]);refine tY (v:=?_) 2 168 ?_ ?_;rotate_left
        ·intro w hSw;rw[hSd] at hSw;obtain⟨q0,-⟩:=hSw;go_simp;(try with_reducible rfl)
        (try simp only[N0]);refine tY (v:=?_) 3 169 ?_ ?_;rotate_left
        ·intro w hSw;rw[hSd] at hSw;obtain⟨q0,-⟩:=hSw;go_simp;(try with_reducible rfl)
        (try simp only[N0]);refine tY (v:=?_) 5 171 ?_ ?_;rotate_left
        ·intro w hSw;rw[hSd] at hSw;obtain⟨q0,-⟩:=hSw;go_simp;(try with_reducible rfl)
        (try simp only[N0]);refine tY (v:=?_) 6 172 ?_ ?_;rotate_left
        ·intro w hSw;rw[hSd] at hSw;obtain⟨q0,-⟩:=hSw;go_simp;(try with_reducible rfl)
        (try simp only[N0]);refine tY (v:=?_) 7 173 ?_ ?_;rotate_left
        ·intro w hSw;rw[hSd] at hSw;obtain⟨q0,-⟩:=hSw;go_simp;(try with_reducible rfl)
        (try simp only[N0]);refine tY (v:=?_) 8 174 ?_ ?_;rotate_left
        ·intro w hSw;rw[hSd] at hSw;obtain⟨q0,-⟩:=hSw;go_simp;(try with_reducible rfl)
        (try simp only[N0]);refine wpAnyH_ready (rs:=[4]) (by kernel_rfl) (by simp) ?_;refine AllReadyH.cons (o:=_) rfl (fun Kq hK=>?_) AllReadyH.nil;go_simp;refine(HHl.out yd HBy).mono ?_;rintro e zz ⟨rfl,hzz⟩;obtain rfl:=hzz.symm;clear hzz;(try go_simp);refine hK.out _ _ ?_ (fun hHeld=>?_)
        ·exact HS.out _ hKyd
        clear hK Kq;(try simp only[N0]);refine wpAnyH_ready (rs:=[9]) (by kernel_rfl) (by simp) ?_;refine AllReadyH.cons (o:=_) rfl (fun Kq hK=>?_) AllReadyH.nil;go_simp;refine(HHu.out yd HBy).mono ?_;rintro e zz ⟨rfl,hzz⟩;obtain rfl:=hzz.symm;clear hzz;(try go_simp);refine hK.out _ _ ?_ (fun hHeld=>?_)
        ·exact HS.out _ hKyd
        clear hK Kq;(try simp only[N0]);refine tY (v:=?_) 10 176 ?_ ?_;rotate_left
        ·intro w hSw;rw[hSd] at hSw;obtain⟨q0,-⟩:=hSw;go_simp;(try with_reducible rfl)
        (try simp only[N0]);refine tY (v:=?_) 11 177 ?_ ?_;rotate_left
        ·intro w hSw;rw[hSd] at hSw;obtain⟨q0,-⟩:=hSw;go_simp;(try with_reducible rfl)
        (try simp only[N0]);refine tY (v:=?_) 12 178 ?_ ?_;rotate_left
        ·intro w hSw;rw[hSd] at hSw;obtain⟨q0,-⟩:=hSw;go_simp;(try with_reducible rfl)
        (try simp only[N0]);refine tY (v:=?_) 13 179 ?_ ?_;rotate_left
        ·intro w hSw;rw[hSd] at hSw;obtain⟨q0,-⟩:=hSw;go_simp;(try with_reducible rfl)
        (try simp only[N0]);refine tY (v:=?_) 14 180 ?_ ?_;rotate_left
        ·intro w hSw;rw[hSd] at hSw;obtain⟨q0,-⟩:=hSw;go_simp;(try with_reducible rfl)
        (try simp only[N0]);refine wpAnyH_done (by kernel_rfl) ?_ _;clear HS hSd;have HBz:=Lib.hid HBy;clear hKyd;generalize yd=wy at *;go_wp2;go_roundw
        case rel=>exact⟨_,rfl,j+1,by omega,by go_num,HBz⟩
        case measure=>simp[intOf];omega
      ·have hdi:decide (j=i)=false:=(by simpa using fun h=>hjI (hjih.out.2 h));have hIe:(Ij==I)=false:=(by simpa using hjI);rw[hdi] at he3;clear hdi hjI;cases a2 with
       |false=>
        cases a1 with
        |false=>
         obtain rfl:a3=false:=(by rw[he3.out];simp);clear he3;(go_wp2_with fail);clear p0 p1 x0 x1 x2 x3 k0 k1 k2 k3;rw[←hwk.out,←hzb.out];clear hwk hzb;obtain⟨p0,p1⟩:=HK.out.cells;obtain⟨x0,x1,x2,x3,-⟩:=facts44 HK.out.bx;obtain⟨k0,k1,k2,k3,-⟩:=facts44 HXk.out;refine HHo.out.mono ?_;rintro e zz ⟨rfl,hzz⟩;obtain rfl:=hzz.symm;clear hzz;(go_wp2_with fail);clear p0 p1 x0 x1 x2 x3 k0 k1 k2 k3;obtain⟨k0,-,-,-,-⟩:=facts44 HXk.out;have hzbk:zb<wk.heap.size:=(Array.getElem?_eq_some_iff.1 HXk.out).1;have HQw:=Lib.hid (fun w' (hz:Hid (Kp wk.heap.size [] wk w'))=>((hz.out.cell (by simp only;omega) (by simp;try omega)).trans k0:w'.cell? ⟨zb,0,none⟩=some (.int .i64 Ij)));obtain⟨S,hSd⟩:∃S:World→Prop,S=fun w'=>(w'.cell? ⟨zb,0,none⟩=some (.int .i64 Ij))∧Hid (Kp wk.heap.size [] wk w'):=⟨_,rfl⟩
         have HS:=Lib.hid (fun w' (hz:Hid (Kp wk.heap.size [] wk w'))=>(by rw[hSd];exact⟨HQw.out w' hz,hz⟩:S w'));clear HQw k0;refine wp_region_held_drew (S:=S) (by kernel_rfl) ?_ (fun hHeld=>?_)
         ·exact HS.out _ (Lib.hid (Kp.refl _ _ _).drew)
         have hKyd:Hid (Kp wk.heap.size [] wk wk.drew):=Lib.hid (Kp.refl _ _ _).drew;have hSyd:wk.heap.size≤wk.drew.heap.size:=Nat.le_refl _;have HBy:=below_via HBk.out HBk.out.size (Below.refl wk.heap.size wk).drew;generalize wk.drew=yd at *;refine tY (v:=?_) 0 166 ?_ ?_;rotate_left
         ·intro w hSw;rw[hSd] at hSw;obtain⟨q0,-⟩:=hSw;go_simp;(try with_reducible rfl)
         (try simp only[N0]);refine tY (v:=?_) 1 167 ?_ ?_;rotate_left
         ·intro w hSw;rw[hSd] at hSw;obtain⟨q0,-⟩:=hSw;go_simp;(try with_reducible rfl)
         (try simp only[N0]);refine tY (v:=?_) 2 168 ?_ ?_;rotate_left
         ·intro w hSw;rw[hSd] at hSw;obtain⟨q0,-⟩:=hSw;go_simp;(try with_reducible rfl)
         (try simp only[N0]);refine tY (v:=?_) 3 169 ?_ ?_;rotate_left
         ·intro w hSw;rw[hSd] at hSw;obtain⟨q0,-⟩:=hSw;go_simp;(try with_reducible rfl)
         (try simp only[N0]);refine tY (v:=?_) 5 171 ?_ ?_;rotate_left
         ·intro w hSw;rw[hSd] at hSw;obtain⟨q0,-⟩:=hSw;go_simp;(try with_reducible rfl)
         (try simp only[N0]);refine tY (v:=?_) 6 172 ?_ ?_;rotate_left
         ·intro w hSw;rw[hSd] at hSw;obtain⟨q0,-⟩:=hSw;go_simp;(try with_reducible rfl)
         (try simp only[N0]);refine tY (v:=?_) 7 173 ?_ ?_;rotate_left
         ·intro w hSw;rw[hSd] at hSw;obtain⟨q0,-⟩:=hSw;go_simp;(try with_reducible rfl)
         (try simp only[N0]);refine tY (v:=?_) 8 174 ?_ ?_;rotate_left
         ·intro w hSw;rw[hSd] at hSw;obtain⟨q0,-⟩:=hSw;go_simp;(try with_reducible rfl)
         (try simp only[N0]);refine wpAnyH_ready (rs:=[4]) (by kernel_rfl) (by simp) ?_;refine AllReadyH.cons (o:=_) rfl (fun Kq hK=>?_) AllReadyH.nil;go_simp;refine(HHl.out yd HBy).mono ?_;rintro e zz ⟨rfl,hzz⟩;obtain rfl:=hzz.symm;clear hzz;(try go_simp);refine hK.out _ _ ?_ (fun hHeld=>?_)
         ·exact HS.out _ hKyd
         clear hK Kq;(try simp only[N0]);refine wpAnyH_ready (rs:=[9]) (by kernel_rfl) (by simp) ?_;refine AllReadyH.cons (o:=_) rfl (fun Kq hK=>?_) AllReadyH.nil;go_simp;refine(HHu.out yd HBy).mono ?_;rintro e zz ⟨rfl,hzz⟩;obtain rfl:=hzz.symm;clear hzz;(try go_simp);refine hK.out _ _ ?_ (fun hHeld=>?_)
         ·exact HS.out _ hKyd
         clear hK Kq;(try simp only[N0]);refine tY (v:=?_) 10 176 ?_ ?_;rotate_left
         ·intro w hSw;rw[hSd] at hSw;obtain⟨q0,-⟩:=hSw;go_simp;(try with_reducible rfl)
         (try simp only[N0]);refine tN 11 177 ?_;(try simp only[N0]);refine tN 12 178 ?_;(try simp only[N0]);refine tY (v:=?_) 13 179 ?_ ?_;rotate_left
         ·intro w hSw;rw[hSd] at hSw;obtain⟨q0,-⟩:=hSw;go_simp;(try with_reducible rfl)
         (try simp only[N0]);refine tY (v:=?_) 14 180 ?_ ?_;rotate_left
         ·intro w hSw;rw[hSd] at hSw;obtain⟨q0,-⟩:=hSw;go_simp;(try with_reducible rfl)
         (try simp only[N0]);refine wpAnyH_done (by kernel_rfl) ?_ _;clear HS hSd;have HBz:=Lib.hid HBy;clear hKyd;generalize yd=wy at *;go_wp2;go_roundw
         case rel=>exact⟨_,rfl,j+1,by omega,by go_num,HBz⟩
         case measure=>simp[intOf];omega
        |true=>
         obtain rfl:a3=true:=(by rw[he3.out];simp);clear he3;(go_wp2_with fail);clear p0 p1 x0 x1 x2 x3 k0 k1 k2 k3;rw[←hwk.out,←hzb.out];clear hwk hzb;obtain⟨p0,p1⟩:=HK.out.cells;obtain⟨x0,x1,x2,x3,-⟩:=facts44 HK.out.bx;obtain⟨k0,k1,k2,k3,-⟩:=facts44 HXk.out;refine HHo.out.mono ?_;rintro e zz ⟨rfl,hzz⟩;obtain rfl:=hzz.symm;clear hzz;(go_wp2_with fail);clear p0 p1 x0 x1 x2 x3 k0 k1 k2 k3;obtain⟨k0,-,-,-,-⟩:=facts44 HXk.out;have hzbk:zb<wk.heap.size:=(Array.getElem?_eq_some_iff.1 HXk.out).1;have HQw:=Lib.hid (fun w' (hz:Hid (Kp wk.heap.size [] wk w'))=>((hz.out.cell (by simp only;omega) (by simp;try omega)).trans k0:w'.cell? ⟨zb,0,none⟩=some (.int .i64 Ij)));obtain⟨S,hSd⟩:∃S:World→Prop,S=fun w'=>(w'.cell? ⟨zb,0,none⟩=some (.int .i64 Ij))∧Hid (Kp wk.heap.size [] wk w'):=⟨_,rfl⟩
         have HS:=Lib.hid (fun w' (hz:Hid (Kp wk.heap.size [] wk w'))=>(by rw[hSd];exact⟨HQw.out w' hz,hz⟩:S w'));clear HQw k0;refine wp_region_held_drew (S:=S) (by kernel_rfl) ?_ (fun hHeld=>?_)
         ·exact HS.out _ (Lib.hid (Kp.refl _ _ _).drew)
         have hKyd:Hid (Kp wk.heap.size [] wk wk.drew):=Lib.hid (Kp.refl _ _ _).drew;have hSyd:wk.heap.size≤wk.drew.heap.size:=Nat.le_refl _;have HBy:=below_via HBk.out HBk.out.size (Below.refl wk.heap.size wk).drew;generalize wk.drew=yd at *;refine tY (v:=?_) 0 166 ?_ ?_;rotate_left
         ·intro w hSw;rw[hSd] at hSw;obtain⟨q0,-⟩:=hSw;go_simp;(try with_reducible rfl)
         (try simp only[N0]);refine tY (v:=?_) 1 167 ?_ ?_;rotate_left
         ·intro w hSw;rw[hSd] at hSw;obtain⟨q0,-⟩:=hSw;go_simp;(try with_reducible rfl)
         (try simp only[N0]);refine tY (v:=?_) 2 168 ?_ ?_;rotate_left
         ·intro w hSw;rw[hSd] at hSw;obtain⟨q0,-⟩:=hSw;go_simp;(try with_reducible rfl)
         (try simp only[N0]);refine tY (v:=?_) 3 169 ?_ ?_;rotate_left
         ·intro w hSw;rw[hSd] at hSw;obtain⟨q0,-⟩:=hSw;go_simp;(try with_reducible rfl)
         (try simp only[N0]);refine tY (v:=?_) 5 171 ?_ ?_;rotate_left
         ·intro w hSw;rw[hSd] at hSw;obtain⟨q0,-⟩:=hSw;go_simp;(try with_reducible rfl)
         (try simp only[N0]);refine tY (v:=?_) 6 172 ?_ ?_;rotate_left
         ·intro w hSw;rw[hSd] at hSw;obtain⟨q0,-⟩:=hSw;go_simp;(try with_reducible rfl)
         (try simp only[N0]);refine tY (v:=?_) 7 173 ?_ ?_;rotate_left
         ·intro w hSw;rw[hSd] at hSw;obtain⟨q0,-⟩:=hSw;go_simp;(try with_reducible rfl)
         (try simp only[N0]);refine tY (v:=?_) 8 174 ?_ ?_;rotate_left
         ·intro w hSw;rw[hSd] at hSw;obtain⟨q0,-⟩:=hSw;go_simp;(try with_reducible rfl)
         (try simp only[N0]);refine wpAnyH_ready (rs:=[4]) (by kernel_rfl) (by simp) ?_;refine AllReadyH.cons (o:=_) rfl (fun Kq hK=>?_) AllReadyH.nil;go_simp;refine(HHl.out yd HBy).mono ?_;rintro e zz ⟨rfl,hzz⟩;obtain rfl:=hzz.symm;clear hzz;(try go_simp);refine hK.out _ _ ?_ (fun hHeld=>?_)
         ·exact HS.out _ hKyd
         clear hK Kq;(try simp only[N0]);refine wpAnyH_ready (rs:=[9]) (by kernel_rfl) (by simp) ?_;refine AllReadyH.cons (o:=_) rfl (fun Kq hK=>?_) AllReadyH.nil;go_simp;refine(HHu.out yd HBy).mono ?_;rintro e zz ⟨rfl,hzz⟩;obtain rfl:=hzz.symm;clear hzz;(try go_simp);refine hK.out _ _ ?_ (fun hHeld=>?_)
         ·exact HS.out _ hKyd
         clear hK Kq;(try simp only[N0]);refine tY (v:=?_) 10 176 ?_ ?_;rotate_left
         ·intro w hSw;rw[hSd] at hSw;obtain⟨q0,-⟩:=hSw;go_simp;(try with_reducible rfl)
         (try simp only[N0]);refine tY (v:=?_) 11 177 ?_ ?_;rotate_left
         ·intro w hSw;rw[hSd] at hSw;obtain⟨q0,-⟩:=hSw;go_simp;(try with_reducible rfl)
         (try simp only[N0]);refine tY (v:=?_) 12 178 ?_ ?_;rotate_left
         ·intro w hSw;rw[hSd] at hSw;obtain⟨q0,-⟩:=hSw;go_simp;(try with_reducible rfl)
         (try simp only[N0]);refine tY (v:=?_) 13 179 ?_ ?_;rotate_left
         ·intro w hSw;rw[hSd] at hSw;obtain⟨q0,-⟩:=hSw;go_simp;(try with_reducible rfl)
         (try simp only[N0]);refine tY (v:=?_) 14 180 ?_ ?_;rotate_left
         ·intro w hSw;rw[hSd] at hSw;obtain⟨q0,-⟩:=hSw;go_simp;(try with_reducible rfl)
         (try simp only[N0]);refine wpAnyH_done (by kernel_rfl) ?_ _;clear HS hSd;have HBz:=Lib.hid HBy;clear hKyd;generalize yd=wy at *;go_wp2;go_roundw
         case rel=>exact⟨_,rfl,j+1,by omega,by go_num,HBz⟩
         case measure=>simp[intOf];omega
       |true=>
        cases a1 with
        |false=>
         obtain rfl:a3=false:=(by rw[he3.out];simp);clear he3;(go_wp2_with fail);clear p0 p1 x0 x1 x2 x3 k0 k1 k2 k3;rw[←hwk.out,←hzb.out];clear hwk hzb;obtain⟨p0,p1⟩:=HK.out.cells;obtain⟨x0,x1,x2,x3,-⟩:=facts44 HK.out.bx;obtain⟨k0,k1,k2,k3,-⟩:=facts44 HXk.out;refine HHo.out.mono ?_;rintro e zz ⟨rfl,hzz⟩;obtain rfl:=hzz.symm;clear hzz;(go_wp2_with fail);clear p0 p1 x0 x1 x2 x3 k0 k1 k2 k3;obtain⟨k0,-,-,-,-⟩:=facts44 HXk.out;have hzbk:zb<wk.heap.size:=(Array.getElem?_eq_some_iff.1 HXk.out).1;have HQw:=Lib.hid (fun w' (hz:Hid (Kp wk.heap.size [] wk w'))=>((hz.out.cell (by simp only;omega) (by simp;try omega)).trans k0:w'.cell? ⟨zb,0,none⟩=some (.int .i64 Ij)));obtain⟨S,hSd⟩:∃S:World→Prop,S=fun w'=>(w'.cell? ⟨zb,0,none⟩=some (.int .i64 Ij))∧Hid (Kp wk.heap.size [] wk w'):=⟨_,rfl⟩
         have HS:=Lib.hid (fun w' (hz:Hid (Kp wk.heap.size [] wk w'))=>(by rw[hSd];exact⟨HQw.out w' hz,hz⟩:S w'));clear HQw k0;refine wp_region_held_drew (S:=S) (by kernel_rfl) ?_ (fun hHeld=>?_)
         ·exact HS.out _ (Lib.hid (Kp.refl _ _ _).drew)
         have hKyd:Hid (Kp wk.heap.size [] wk wk.drew):=Lib.hid (Kp.refl _ _ _).drew;have hSyd:wk.heap.size≤wk.drew.heap.size:=Nat.le_refl _;have HBy:=below_via HBk.out HBk.out.size (Below.refl wk.heap.size wk).drew;generalize wk.drew=yd at *;refine tY (v:=?_) 0 166 ?_ ?_;rotate_left
         ·intro w hSw;rw[hSd] at hSw;obtain⟨q0,-⟩:=hSw;go_simp;(try with_reducible rfl)
         (try simp only[N0]);refine tY (v:=?_) 1 167 ?_ ?_;rotate_left
         ·intro w hSw;rw[hSd] at hSw;obtain⟨q0,-⟩:=hSw;go_simp;(try with_reducible rfl)
         (try simp only[N0]);refine tY (v:=?_) 2 168 ?_ ?_;rotate_left
         ·intro w hSw;rw[hSd] at hSw;obtain⟨q0,-⟩:=hSw;go_simp;(try with_reducible rfl)
         (try simp only[N0]);refine tY (v:=?_) 3 169 ?_ ?_;rotate_left
         ·intro w hSw;rw[hSd] at hSw;obtain⟨q0,-⟩:=hSw;go_simp;(try with_reducible rfl)
         (try simp only[N0]);refine tY (v:=?_) 5 171 ?_ ?_;rotate_left
         ·intro w hSw;rw[hSd] at hSw;obtain⟨q0,-⟩:=hSw;go_simp;(try with_reducible rfl)
         (try simp only[N0]);refine tY (v:=?_) 6 172 ?_ ?_;rotate_left
         ·intro w hSw;rw[hSd] at hSw;obtain⟨q0,-⟩:=hSw;go_simp;(try with_reducible rfl)
         (try simp only[N0]);refine tY (v:=?_) 7 173 ?_ ?_;rotate_left
         ·intro w hSw;rw[hSd] at hSw;obtain⟨q0,-⟩:=hSw;go_simp;(try with_reducible rfl)
         (try simp only[N0]);refine tY (v:=?_) 8 174 ?_ ?_;rotate_left
         ·intro w hSw;rw[hSd] at hSw;obtain⟨q0,-⟩:=hSw;go_simp;(try with_reducible rfl)
         (try simp only[N0]);refine wpAnyH_ready (rs:=[4]) (by kernel_rfl) (by simp) ?_;refine AllReadyH.cons (o:=_) rfl (fun Kq hK=>?_) AllReadyH.nil;go_simp;refine(HHl.out yd HBy).mono ?_;rintro e zz ⟨rfl,hzz⟩;obtain rfl:=hzz.symm;clear hzz;(try go_simp);refine hK.out _ _ ?_ (fun hHeld=>?_)
         ·exact HS.out _ hKyd
         clear hK Kq;(try simp only[N0]);refine wpAnyH_ready (rs:=[9]) (by kernel_rfl) (by simp) ?_;refine AllReadyH.cons (o:=_) rfl (fun Kq hK=>?_) AllReadyH.nil;go_simp;refine(HHu.out yd HBy).mono ?_;rintro e zz ⟨rfl,hzz⟩;obtain rfl:=hzz.symm;clear hzz;(try go_simp);refine hK.out _ _ ?_ (fun hHeld=>?_)
         ·exact HS.out _ hKyd
         clear hK Kq;(try simp only[N0]);refine tY (v:=?_) 10 176 ?_ ?_;rotate_left
         ·intro w hSw;rw[hSd] at hSw;obtain⟨q0,-⟩:=hSw;go_simp;(try with_reducible rfl)
         (try simp only[N0]);refine tN 11 177 ?_;(try simp only[N0]);refine tN 12 178 ?_;(try simp only[N0]);refine tY (v:=?_) 13 179 ?_ ?_;rotate_left
         ·intro w hSw;rw[hSd] at hSw;obtain⟨q0,-⟩:=hSw;go_simp;(try with_reducible rfl)
         (try simp only[N0]);refine tY (v:=?_) 14 180 ?_ ?_;rotate_left
         ·intro w hSw;rw[hSd] at hSw;obtain⟨q0,-⟩:=hSw;go_simp;(try with_reducible rfl)
         (try simp only[N0]);refine wpAnyH_done (by kernel_rfl) ?_ _;clear HS hSd;have HBz:=Lib.hid HBy;clear hKyd;generalize yd=wy at *;go_wp2;go_roundw
         case rel=>exact⟨_,rfl,j+1,by omega,by go_num,HBz⟩
         case measure=>simp[intOf];omega
        |true=>
         obtain rfl:a3=false:=(by rw[he3.out];simp);clear he3;(go_wp2_with fail);clear p0 p1 x0 x1 x2 x3 k0 k1 k2 k3;rw[←hwk.out,←hzb.out];clear hwk hzb;obtain⟨p0,p1⟩:=HK.out.cells;obtain⟨x0,x1,x2,x3,-⟩:=facts44 HK.out.bx;obtain⟨k0,k1,k2,k3,-⟩:=facts44 HXk.out;refine HHo.out.mono ?_;rintro e zz ⟨rfl,hzz⟩;obtain rfl:=hzz.symm;clear hzz;(go_wp2_with fail);clear p0 p1 x0 x1 x2 x3 k0 k1 k2 k3;obtain⟨k0,-,-,-,-⟩:=facts44 HXk.out;have hzbk:zb<wk.heap.size:=(Array.getElem?_eq_some_iff.1 HXk.out).1;have HQw:=Lib.hid (fun w' (hz:Hid (Kp wk.heap.size [] wk w'))=>((hz.out.cell (by simp only;omega) (by simp;try omega)).trans k0:w'.cell? ⟨zb,0,none⟩=some (.int .i64 Ij)));obtain⟨S,hSd⟩:∃S:World→Prop,S=fun w'=>(w'.cell? ⟨zb,0,none⟩=some (.int .i64 Ij))∧Hid (Kp wk.heap.size [] wk w'):=⟨_,rfl⟩
         have HS:=Lib.hid (fun w' (hz:Hid (Kp wk.heap.size [] wk w'))=>(by rw[hSd];exact⟨HQw.out w' hz,hz⟩:S w'));clear HQw k0;refine wp_region_held_drew (S:=S) (by kernel_rfl) ?_ (fun hHeld=>?_)
         ·exact HS.out _ (Lib.hid (Kp.refl _ _ _).drew)
         have hKyd:Hid (Kp wk.heap.size [] wk wk.drew):=Lib.hid (Kp.refl _ _ _).drew;have hSyd:wk.heap.size≤wk.drew.heap.size:=Nat.le_refl _;have HBy:=below_via HBk.out HBk.out.size (Below.refl wk.heap.size wk).drew;generalize wk.drew=yd at *;refine tY (v:=?_) 0 166 ?_ ?_;rotate_left
         ·intro w hSw;rw[hSd] at hSw;obtain⟨q0,-⟩:=hSw;go_simp;(try with_reducible rfl)
         (try simp only[N0]);refine tY (v:=?_) 1 167 ?_ ?_;rotate_left
         ·intro w hSw;rw[hSd] at hSw;obtain⟨q0,-⟩:=hSw;go_simp;(try with_reducible rfl)
         (try simp only[N0]);refine tY (v:=?_) 2 168 ?_ ?_;rotate_left
         ·intro w hSw;rw[hSd] at hSw;obtain⟨q0,-⟩:=hSw;go_simp;(try with_reducible rfl)
         (try simp only[N0]);refine tY (v:=?_) 3 169 ?_ ?_;rotate_left
         ·intro w hSw;rw[hSd] at hSw;obtain⟨q0,-⟩:=hSw;go_simp;(try with_reducible rfl)
         (try simp only[N0]);refine tY (v:=?_) 5 171 ?_ ?_;rotate_left
         ·intro w hSw;rw[hSd] at hSw;obtain⟨q0,-⟩:=hSw;go_simp;(try with_reducible rfl)
         (try simp only[N0]);refine tY (v:=?_) 6 172 ?_ ?_;rotate_left
         ·intro w hSw;rw[hSd] at hSw;obtain⟨q0,-⟩:=hSw;go_simp;(try with_reducible rfl)
         (try simp only[N0]);refine tY (v:=?_) 7 173 ?_ ?_;rotate_left
         ·intro w hSw;rw[hSd] at hSw;obtain⟨q0,-⟩:=hSw;go_simp;(try with_reducible rfl)
         (try simp only[N0]);refine tY (v:=?_) 8 174 ?_ ?_;rotate_left
         ·intro w hSw;rw[hSd] at hSw;obtain⟨q0,-⟩:=hSw;go_simp;(try with_reducible rfl)
         (try simp only[N0]);refine wpAnyH_ready (rs:=[4]) (by kernel_rfl) (by simp) ?_;refine AllReadyH.cons (o:=_) rfl (fun Kq hK=>?_) AllReadyH.nil;go_simp;refine(HHl.out yd HBy).mono ?_;rintro e zz ⟨rfl,hzz⟩;obtain rfl:=hzz.symm;clear hzz;(try go_simp);refine hK.out _ _ ?_ (fun hHeld=>?_)
         ·exact HS.out _ hKyd
         clear hK Kq;(try simp only[N0]);refine wpAnyH_ready (rs:=[9]) (by kernel_rfl) (by simp) ?_;refine AllReadyH.cons (o:=_) rfl (fun Kq hK=>?_) AllReadyH.nil;go_simp;refine(HHu.out yd HBy).mono ?_;rintro e zz ⟨rfl,hzz⟩;obtain rfl:=hzz.symm;clear hzz;(try go_simp);refine hK.out _ _ ?_ (fun hHeld=>?_)
         ·exact HS.out _ hKyd
         clear hK Kq;(try simp only[N0]);refine tY (v:=?_) 10 176 ?_ ?_;rotate_left
         ·intro w hSw;rw[hSd] at hSw;obtain⟨q0,-⟩:=hSw;go_simp;(try with_reducible rfl)
         (try simp only[N0]);refine tY (v:=?_) 11 177 ?_ ?_;rotate_left
         ·intro w hSw;rw[hSd] at hSw;obtain⟨q0,-⟩:=hSw;go_simp;(try with_reducible rfl)
         (try simp only[N0]);refine tY (v:=?_) 12 178 ?_ ?_;rotate_left
         ·intro w hSw;rw[hSd] at hSw;obtain⟨q0,-⟩:=hSw;go_simp;(try with_reducible rfl)
         (try simp only[N0]);refine tY (v:=?_) 13 179 ?_ ?_;rotate_left
         ·intro w hSw;rw[hSd] at hSw;obtain⟨q0,-⟩:=hSw;go_simp;(try with_reducible rfl)
         (try simp only[N0]);refine tY (v:=?_) 14 180 ?_ ?_;rotate_left
         ·intro w hSw;rw[hSd] at hSw;obtain⟨q0,-⟩:=hSw;go_simp;(try with_reducible rfl)
         (try simp only[N0]);refine wpAnyH_done (by kernel_rfl) ?_ _;clear HS hSd;have HBz:=Lib.hid HBy;clear hKyd;generalize yd=wy at *;go_wp2;go_roundw
         case rel=>exact⟨_,rfl,j+1,by omega,by go_num,HBz⟩
         case measure=>simp[intOf];omega
    ·obtain rfl:n=j:=(by omega);have hji:¬(n:Int)<(n:Int):=(by omega);have HY2:=keepO HBj.out HY.out;have HR1j:=Lib.hid ((HR1.out.below HBj.out).more HBj.out.size);have HR2j:=Lib.hid ((HR2.out.below HBj.out).more HBj.out.size);obtain⟨q0,q1,-,-⟩:=two_facts HY2;obtain⟨x0,x1,x2,x3,-⟩:=facts44 HJ.out.bx;clear HY2 HB0 HBj;(go_wp2_with fail);clear q0 q1 x0 x1 x2 x3;have hU:=lead_any A1 A2 n c1 n' c2 (setTo ps i 0) ws I T wj hnm hnm' HR1j.out HR2j.out HJ.out.laid;rw[hbkh.out] at hU;refine hU.mono ?_;rintro e v1 ⟨⟨A3,n3,c3,A4,n4,c4,rfl,ho1,ho2⟩,hb⟩;replace HJ:=Lib.hid (HJ.out.below hb);have HR3:=Lib.hid (Reads.of_own ho1);have HR4:=Lib.hid (Reads.of_own ho2);obtain rfl:n=n3:=(by have h:ps.length=n3:=HR3.out.pg_len;have h2:=hlh.out;omega);obtain rfl:n'=n4:=(by have h:ws.length=n4:=HR4.out.wg_len;have h2:ws.length=n':=HJ.out.rw_.wg_len;omega);clear hb ho1 ho2 hU;obtain⟨v2,hz9_⟩:∃z9,z9=v1.alloc (.cells #[.slice A3 n c3,.slice A4 n' c4] 25):=⟨_,rfl⟩;have hb:Below v1.heap.size v1 v2:=(by rw[hz9_];exact(Below.refl _ _).alloc (Nat.le_refl _) _);replace HJ:=Lib.hid (HJ.out.below hb);replace HR3:=Lib.hid ((HR3.out.below hb).more hb.size);replace HR4:=Lib.hid ((HR4.out.below hb).more hb.size);have hyb:=heap_alloc_new v1 (.cells #[.slice A3 n c3,.slice A4 n' c4] 25);rw[←hz9_] at hyb;have hz9:=Lib.hid hz9_;obtain⟨yc,hyb_⟩:∃yb,yb=v1.heap.size:=⟨_,rfl⟩;rw[←hyb_] at hyb;have hybe:=Lib.hid hyb_;obtain⟨q0,q1,-,-⟩:=two_facts hyb;obtain⟨p0,p1⟩:=HJ.out.cells;rw[hz9.out] at q0 q1 p0 p1
     rw[hybe.out] at q0 q1;clear hb hz9_ hyb_ hyb;(go_wp2_with fail);clear q0 q1 p0 p1;rw[←hz9.out];clear hz9 hybe;refine(Same_same A3 A4 (some ⟨bp,op,none⟩) A' n c3 n' c4 c c' ps ws v2 hnm hnm' HR3.out HR4.out HJ.out.rp HJ.out.rw_).mono ?_;rintro e v3 ⟨rfl,hb⟩;have HB3:=Lib.hid (HJ.out.below hb).bel;clear hb HR3 HR4;go_wp2;go_ret;exact⟨rfl,HB3.out⟩
  ·have hTz:(Tq != 0)=true:=(by simpa using hT0);have hlt:(q:Int)<idxP ps Tq:=(by have h:=hVh.out.to_ q _ hxq;simp only at h;omega);have hbd:=idxP_bound ps Tq;rw[hlh.out] at hbd;obtain⟨q2,hq2_⟩:∃q2:Nat,idxP ps Tq=q2:=⟨(idxP ps Tq).toNat,by omega⟩;have hq2n:q2<n:=(by omega);have hq2q:q<q2:=(by omega);have hsome:tT q=some q2:=(by rw[htT.out];unfold toT;rw[hxq];simp only;rw[if_neg hT0,hq2_];rfl);have hFt:Fwd n tT:=(by rw[htT.out];exact hFw.out);have hstep:=ldN_some (k:=k) hFt hqn hsome;rw[hstep] at hbq;have hPq_:=HPg.out Tq;rw[hq2_] at hPq_;have hPq:=Lib.hid hPq_;have hww:w.heap.size<wq.heap.size:=(Array.getElem?_eq_some_iff.1 HT.b0).1;have HBy:=HBq.out;clear hstep hFt hsome hlt hbd hq2_ hPq_ hxq hT0;have HQw:=Lib.hid (fun w' (hz:Hid (Kp wq.heap.size [] wq w'))=>(⟨(hz.out.cell (by simp only;omega) (by simp;try omega)).trans p0,(hz.out.cell (by simp only;omega) (by simp;try omega)).trans p1,(hz.out.cell (by simp only;omega) (by simp;try omega)).trans y3⟩:w'.cell? ⟨w.heap.size,0,none⟩=some (.slice (some ⟨bp,op,none⟩) n c)∧w'.cell? ⟨w.heap.size,1,none⟩=some (.slice A' n' c')∧w'.cell? ⟨bp,op+q*4+3,none⟩=some (.int .i64 Tq)));obtain⟨S,hSd⟩:∃S:World→Prop,S=fun w'=>(w'.cell? ⟨w.heap.size,0,none⟩=some (.slice (some ⟨bp,op,none⟩) n c)∧w'.cell? ⟨w.heap.size,1,none⟩=some (.slice A' n' c')∧w'.cell? ⟨bp,op+q*4+3,none⟩=some (.int .i64 Tq))∧Hid (Kp wq.heap.size [] wq w'):=⟨_,rfl⟩
   have HS:=Lib.hid (fun w' (hz:Hid (Kp wq.heap.size [] wq w'))=>(by rw[hSd];exact⟨HQw.out w' hz,hz⟩:S w'));clear HQw;(go_wp2_with fail);clear p0 p1 y0 y1 y2 y3;refine wp_region_held_drew (S:=S) (by kernel_rfl) ?_ (fun hHeld=>?_)
   ·exact HS.out _ (Lib.hid (Kp.refl _ _ _).drew)
   have hKyd:Hid (Kp wq.heap.size [] wq wq.drew):=Lib.hid (Kp.refl _ _ _).drew;have hSyd:wq.heap.size≤wq.drew.heap.size:=Nat.le_refl _;have HT:=HT.below (Below.refl wq.heap.size wq).drew;have HBy:=below_via HBy HBy.size (Below.refl wq.heap.size wq).drew;generalize wq.drew=yd at *;refine tY (v:=?_) 0 118 ?_ ?_;rotate_left
   ·intro w hSw;rw[hSd] at hSw;obtain⟨⟨q0,q1,q2⟩,-⟩:=hSw;go_simp;(try with_reducible rfl)
   (try simp only[N0]);refine tY (v:=?_) 1 119 ?_ ?_;rotate_left
   ·intro w hSw;rw[hSd] at hSw;obtain⟨⟨q0,q1,q2⟩,-⟩:=hSw;go_simp;(try with_reducible rfl)
   (try simp only[N0]);refine tY (v:=?_) 2 120 ?_ ?_;rotate_left
   ·intro w hSw;rw[hSd] at hSw;obtain⟨⟨q0,q1,q2⟩,-⟩:=hSw;go_simp;(try with_reducible rfl)
   (try simp only[N0]);refine tY (v:=?_) 3 121 ?_ ?_;rotate_left
   ·intro w hSw;rw[hSd] at hSw;obtain⟨⟨q0,q1,q2⟩,-⟩:=hSw;go_simp;(try with_reducible rfl)
   (try simp only[N0]);refine tY (v:=?_) 4 122 ?_ ?_;rotate_left
   ·intro w hSw;rw[hSd] at hSw;obtain⟨⟨q0,q1,q2⟩,-⟩:=hSw;go_simp;(try with_reducible rfl)
   (try simp only[N0]);refine tY (v:=?_) 5 123 ?_ ?_;rotate_left
   ·intro w hSw;rw[hSd] at hSw;obtain⟨⟨q0,q1,q2⟩,-⟩:=hSw;go_simp;(try with_reducible rfl)
   (try simp only[N0]);refine tY (v:=?_) 6 124 ?_ ?_;rotate_left
   ·intro w hSw;rw[hSd] at hSw;obtain⟨⟨q0,q1,q2⟩,-⟩:=hSw;go_simp;(try with_reducible rfl)
   (try simp only[N0]);refine wpAnyH_ready (rs:=[7]) (by kernel_rfl) (by simp) ?_;refine AllReadyH.cons (o:=_) rfl (fun Kq hK=>?_) AllReadyH.nil;go_simp;refine(hPq.out yd HT.toPX).mono ?_;rintro e c7yd ⟨rfl,hb⟩;have hKc7yd:=Lib.hid (hKyd.out.call hSyd hb);have hSc7yd:=Nat.le_trans hSyd hb.size;have HT:=HT.below hb;have HBy:=below_via HBy HBy.size hb;clear hb;(try go_simp);refine hK.out _ _ ?_ (fun hHeld=>?_)
   ·exact HS.out _ hKc7yd
   clear hK Kq;(try simp only[N0]);refine tY (v:=?_) 8 19 ?_ ?_;rotate_left
   ·intro w hSw;rw[hSd] at hSw;obtain⟨⟨q0,q1,q2⟩,-⟩:=hSw;go_simp;(try with_reducible rfl)
   (try simp only[N0]);refine wpAnyH_done (by kernel_rfl) ?_ _;clear HS hSd;generalize c7yd=wy at *;obtain⟨bp4,op4,Iq2,Dq2,Pq2,Tq2,hA4,hbpj,hxj,y0,y1,y2,y3⟩:=HT.rp.pg hq2n;simp only[Option.some.injEq,Addr.mk.injEq,and_true] at hA4;obtain⟨rfl,rfl⟩:=hA4;have hq20:(0:Int)≤(q2:Int):=(by omega);have hq21:(q2:Int)<(n:Int):=(by omega);have hIk:(Iq2=I2)↔q2=k:=by
    have e:idQ ps q2=Iq2:=(by unfold idQ;rw[hxj]);constructor
    ·intro h;have hj2:=hidx.out q2 hq2n;have hi2:=hidx.out k hkn;rw[e,h,←hI2.out,hi2] at hj2;omega
    ·rintro rfl;rw[←e,hI2.out]
   have hIk2:(Iq2==I2)=decide (q2=k):=(by rw[Bool.eq_iff_iff];simpa using hIk);have hrel2:Hid (((b || (Iq2==I2)) || ldN n tT k q2)=ld):=(by show _=_;rw[hIk2,←hbq.out,Bool.or_assoc]);have HBz:=Lib.hid HBy;obtain⟨p0,p1⟩:=HT.cells;clear hIk hIk2 hxj hbq;cases b with
   |true=>
    go_wp2;go_roundw
    case rel=>exact⟨_,rfl,q2,true,hq2n,by go_num,rfl,by show _=_;have h:=hrel2.out;simpa using h,HBz⟩
    case measure=>simp[intOf];omega
   |false=>
    go_wp2;go_roundw
    case rel=>exact⟨_,rfl,q2,(Iq2==I2),hq2n,by go_num,rfl,by show _=_;have h:=hrel2.out;rw[Bool.false_or] at h;exact h,HBz⟩
    case measure=>simp[intOf];omega
end Go.Proofs.YtfplipbkjglmhaaDoor

namespace Go.Proofs.YtfplipbkjglmhaaDoor.pressLed
open Go.ChangeShapes Go.WideShapes Go.ChangeAt Go.RowKit Go.Joins
set_option linter.unusedVariables false
theorem laidOut:laidOutB Tryd.prog=true:=by kernel_rfl
set_option maxRecDepth 100000 in
theorem lifted(os:Os)(started:os.Started)(H:Type)(enc:TypeId×Value→H) :
  ReturnsInHanded {} Tryd.checked os 7 .any (fun w args=>(Rows.pressLedSpec.pre enc Tryd.prog Tryd.f7 [] false w args∧laidMetH Tryd.prog laidList w)∧sizedMet enc Tryd.prog Tryd.f7 (OpenSpec.ofChange Rows.pressLedSpec) false w args)
   (Rows.pressLedSpec.post enc Tryd.prog Tryd.f7 false true false false):=by
 refine returnsInHanded_of_change_and (C:=Tryd.checked) (X:=fun w _=>laidMetH Tryd.prog laidList w) (fun _ _ _ hh h=>h.of_heap hh) own started (by kernel_rfl) Tryd.func7
  (ChangeSpec.witness_shaped (enc:=enc) (C:=Tryd.checked) (os:=os) (X:=fun w _=>laidMetH Tryd.prog laidList w) false (World.doorLaid Tryd.prog 25 os) #[.agg #[.slice none 0 0,.slice none 0 0],.int .u8 0,.int .u8 0] 8 rfl (World.shaped_of_RefB (by kernel_rfl) (by kernel_rfl)) (by kernel_rfl) (by kernel_rfl) (by kernel_rfl) (door_met os _)) ?_
 intro W base args ds gs before hval0 hW _ _ hL _;have hval:∀(j:Nat) t v,Tryd.f7.params[j]? = some t→args[j]? = some v→Value.okWide Tryd.prog W .any base t v:=hval0;have hW':=hW;have hblk:∀x∈before,x.block<W.heap.size:=fun x hx=>hW.lt x hx;obtain⟨p,q,hA0,hV,rfl,hfz,hnd⟩:=hW;have hA:DataW.TrodAll enc Tryd.prog W 0 (fun _=>true) true Tryd.f7.params.toList args.toList ds p:=hA0;have hA':=hA;have hP:=Tryd.params7;rw[Tryd.params7] at hA hval hA';obtain⟨v0,vs0,d0,ds0,p0,q0,hargs,rfl,rfl,h0,r0⟩:=trodAll_cons hA;obtain⟨v1,vs1,d1,ds1,p1,q1,rfl,rfl,rfl,h1,r1⟩:=trodAll_cons r0;obtain⟨v2,vs2,d2,ds2,p2,q2,rfl,rfl,rfl,h2,r2⟩:=trodAll_cons r1;obtain⟨rfl,rfl,rfl⟩:=trodAll_nil r2;obtain rfl:args = #[v0,v1,v2]:=by cases args;simp_all
 obtain⟨rfl,rfl⟩:=trodVars_none hV;simp only[List.append_nil] at hW' hblk;obtain⟨c00,c01,y00,y01,m0,rfl,-,-,g00,g01⟩:=open_agg2 Tryd.underlying25 (by kernel_rfl) (by kernel_rfl) (hval 0 25 v0 rfl rfl) h0;obtain⟨A,n,c,ps,rfl,hnc,hcm0,-,hRp⟩:=open_recs (f:=pgc) (fun _=>rfl) (by omega) Tryd.underlying22 cPg (fun k cs y hl h=>dec_pg k cs y hl h) g00;obtain⟨A',n',c',ws,rfl,hnc',hcm',hnil,hRw⟩:=open_recs (f:=wgc) (fun _=>rfl) (by omega) Tryd.underlying23 cWg (fun k cs y hl h=>dec_wg k cs y hl h) g01;obtain⟨x1_,rfl,rfl,rfl,hw1⟩:=open_int Tryd.underlying5 (hval 1 5 v1 rfl rfl) h1;obtain⟨x1,rfl,hx1⟩:∃m:Nat,x1_=m∧m≤255:=by
  have h:=hw1;simp only[Lit.wf,Bool.and_eq_true,decide_eq_true_eq,show IntKind.u8.min=0 by decide,show IntKind.u8.max=255 by decide] at h;exact⟨x1_.toNat,by omega,by omega⟩
 obtain⟨x2_,rfl,rfl,rfl,hw2⟩:=open_int Tryd.underlying5 (hval 2 5 v2 rfl rfl) h2;obtain⟨x2,rfl,hx2⟩:∃m:Nat,x2_=m∧m≤255:=by
  have h:=hw2;simp only[Lit.wf,Bool.and_eq_true,decide_eq_true_eq,show IntKind.u8.min=0 by decide,show IntKind.u8.max=255 by decide] at h;exact⟨x2_.toNat,by omega,by omega⟩
 clear hA0 hval0;refine(law_led A A' n c n' c' ps ws x1 x2 W hx1 hx2 (by omega) (by omega) hRp hRw (laid_of hL)).mono fun e W' ⟨he,hb⟩=>?_;subst he;refine⟨_,rfl,post_below (ds:=[_,_,_]) (gs:=[]) (pa:=p0++([]++([]++([])))) (pv:=[]) (by simpa using hW') (fun _ _ _=>(trodAll_cons_mk (shut_bool Tryd.underlying4 _) trodAll_mk0)) (fun sp hsp=>?_) (fun _ _=>rfl) (by simp) hb (ok_one (by kernel_rfl) rfl (okWide_bool_mk Tryd.underlying4 _))⟩;rw[hP];refine trodAll_stays laidOut ?_ hA' (fun x hx=>hb.same (hblk x (by simpa using hx))) (fun x hx=>hsp x (by simpa using hx));intro t ht;have hall:([25,5,5].all fun u=>Tryd.prog.readableRec u && decide (u<Tryd.prog.types.size))=true:=by kernel_rfl
 have:=List.all_eq_true.1 hall t (by simpa using ht);simpa using this
theorem over:Rows.PressLedSaid:=
 OpenClaim.holds_of_wide 7 Tryd.f7 rfl rfl rfl rfl rfl rfl rfl ⟨rfl,rfl,rfl,rfl,rfl⟩ rfl rfl rfl rfl rfl (by kernel_rfl) Tryd.func7 (by kernel_rfl)
  (of_decide_eq_true (by kernel_rfl)) (by unfold Func.isWrapper;first|(rw[if_pos (by decide +kernel)];kernel_rfl)|(rw[if_neg (by decide +kernel)];exact⟨rfl,rfl⟩))
  (fun os started H enc _=>lifted os started H enc)
/-- The tied card. -/
theorem proved:Rows.PressLedCardSaid:=
 Claim7.holds_tied_plain_at .later [] [.funcs] true (true, "3cbcdd9f0d995b805788fb1a66c61468378cabb8fb1e0a1aebf8d521baf47642") false
  over (fun _ h=>by cases h) (by kernel_rfl) (fun _ h=>by cases h) pressLed_row_tie rfl ⟨rfl,rfl⟩ (by kernel_rfl) rfl
  (fun f fn hf hfn=>by
   obtain rfl:f=7:=Option.some.inj ((show Tryd.prog.funcNamed "oilcake/oilcakelaw02.PressLed" = some 7 by kernel_rfl).symm.trans hf) |>.symm
   obtain rfl:fn=Tryd.f7:=(Option.some.inj (Tryd.func7.symm.trans hfn)).symm;exact⟨by kernel_rfl,fun j t ht=>by
    rw[Tryd.params7] at ht;have hm:t∈[25,5,5]:=(by simpa using Array.mem_of_getElem? ht);have hall:([25,5,5].all fun u=>!Tryd.prog.wantsStandIn u)=true:=by kernel_rfl
    exact(show Tryd.prog.wantsStandIn t=false by simpa using List.all_eq_true.1 hall t hm)⟩)
  (by kernel_rfl)
#print axioms proved
end Go.Proofs.YtfplipbkjglmhaaDoor.pressLed
