/-
 The plain law of PressProof: the prices that are told have just the greatest sum, others have no less, and none of fewer or of earlier pressings as much.
-/
import Derived.Test.YtfplipbkjglmhaaDoorSameM
namespace Go.Proofs.YtfplipbkjglmhaaDoor
open Go.RowKit
set_option linter.unusedVariables false
set_option linter.unusedSimpArgs false
theorem prf_pick{ps:List PR}{ws:List WE}{k:Int}(h:allE ps ws k=0):∃j,j<2^ps.length∧prpL ps ws k=idF ps (sgP k.toNat 1) j∧prF ps ws k.toNat (sgP k.toNat 1) 1 j=(allS ps ws k).2∧
  ∀s,s<2^ps.length→((allS ps ws k).2<prF ps ws k.toNat (sgP k.toNat 1) 1 s∨prF ps ws k.toNat (sgP k.toNat 1) 1 s=(allS ps ws k).2∧shB (idF ps (sgP k.toNat 1) s) (prpL ps ws k)=false):=by
 obtain⟨hv,h1,h5,ht⟩:=allE_ok h;have hS:(allS ps ws k).2=(lstR ps ws k.toNat (sgP k.toNat 1) 1 (2^ps.length)).1:=by
  unfold allS;rw[if_pos h];exact(lst_grt hv ht (by omega) (.inl rfl)).symm
 rw[prp_prf,hS];unfold prfL;rw[if_pos h];obtain⟨⟨j,hj,e⟩,hall⟩:=leastR_facts (prF ps ws k.toNat (sgP k.toNat 1) 1) (idF ps (sgP k.toNat 1)) (2^ps.length) (Nat.two_pow_pos _);exact⟨j,hj,by unfold lstR;rw[e],by unfold lstR;rw[e],hall⟩
/-- The places of a set, below n, in order. -/
def ixB (s n:Nat):List Nat:=(List.range n).filter fun i=>bitN s i==1
theorem ixB_succ(s n:Nat):ixB s (n+1)=if bitN s n=1 then ixB s n ++ [n] else ixB s n:=by
 unfold ixB;rw[List.range_succ,List.filter_append];by_cases h:bitN s n=1<;>simp[h]
theorem idsY_ixB(ids:Nat→Int){price:Int}(hp:price≠0)(s:Nat):∀n,idsY ids (yBit price s) n=(ixB s n).map ids
 |0=>rfl
 |n+1=>by
  rw[ixB_succ];have ih:=idsY_ixB ids hp s n;have hy:yBit price s n=(bitN s n:Int)*price:=rfl;rcases bitN_01 s n with h|h
  ·rw[idsY_no (by rw[hy,h];simp),if_neg (by omega),ih]
  ·rw[idsY_yes (by rw[hy,h];simpa using hp),if_pos h,ih,List.map_append];rfl
/-- The number that some places make. -/
def sumB (l:List Nat):Nat:=l.foldl (fun a i=>a+2^i) 0
theorem sumB_snoc(l:List Nat)(i:Nat):sumB (l ++ [i])=sumB l+2^i:=by simp[sumB]
theorem sumB_ixB(s:Nat):∀n,sumB (ixB s n)=s%2^n
 |0=>by simp[ixB,sumB,Nat.mod_one]
 |n+1=>by
  rw[ixB_succ,Nat.pow_succ,Nat.mod_mul];have ih:=sumB_ixB s n;rcases bitN_01 s n with h|h
  ·rw[if_neg (by omega),ih];unfold bitN at h;rw[h];omega
  ·rw[if_pos h,sumB_snoc,ih];unfold bitN at h;rw[h];omega
theorem ixB_lt{s n i:Nat}(h:i∈ixB s n):i<n:=by
 unfold ixB at h;exact List.mem_range.1 (List.mem_filter.1 h).1
theorem ixB_asc(s n:Nat):(ixB s n).Pairwise (· < ·):=(List.pairwise_lt_range (n:=n)).filter _
theorem bor_bit{a i:Nat}(h:a<2^i)(hi:i<50):bits .or .i64 (a:Int) (2^i)=((a+2^i:Nat):Int):=by
 have p:2^i≤2^49:=Nat.pow_le_pow_right (by decide) (by omega);have c:(2:Int)^i=((2^i:Nat):Int):=by simp
 have e1:a%2^IntKind.i64.bits=a:=Nat.mod_eq_of_lt (by simp[IntKind.bits];omega);have e2:2^i%2^IntKind.i64.bits=2^i:=Nat.mod_eq_of_lt (by simp[IntKind.bits];omega);have e3:a ||| 2^i=a+2^i:=by
  have:=Nat.two_pow_add_eq_or_of_lt h 1;rw[Nat.mul_one] at this;rw[Nat.or_comm,←this];omega
 rw[c];have hw:IntKind.i64.wrap ((a+2^i:Nat):Int)=((a+2^i:Nat):Int):=IntWalk.i64_in _ (by omega);rw[←hw,←e3];simp only[bits];congr 1;simp only[BitVec.ofInt_natCast,BitVec.toNat_or,BitVec.toNat_ofNat,e1,e2]
/-- The first t of the places make a number below the next place's power. -/
theorem sumB_take{s n t i:Nat}(h:(ixB s n)[t]? = some i):sumB ((ixB s n).take t)<2^i∧sumB ((ixB s n).take (t+1))=sumB ((ixB s n).take t)+2^i:=by
 refine⟨?_,by rw[List.take_add_one,h];exact sumB_snoc _ _⟩;have hin:i<n:=ixB_lt (List.mem_of_getElem? h);have key:(ixB s n).take t=ixB s i:=by
  have hr:List.range n=List.range i++i::(List.range n).drop (i+1):=by
   have h1:(List.range n).take i=List.range i:=(by rw[List.take_range,Nat.min_eq_left (by omega)]);have h2:(List.range n)[i]? = some i:=(by simp[hin]);rw[←h1]
   conv=>lhs;rw[←List.take_append_drop i (List.range n)]
   congr 1;exact List.drop_eq_getElem_cons (by simpa using hin) |>.trans (by simp)
  have hb:bitN s i=1:=by
   have:=List.mem_of_getElem? h;unfold ixB at this;simpa using (List.mem_filter.1 this).2
  have hs:ixB s n=ixB s i++i::((List.range n).drop (i+1)).filter (fun i=>bitN s i==1):=by
   unfold ixB
   conv=>lhs;rw[hr]
   rw[List.filter_append,List.filter_cons_of_pos (by simpa using hb)]
  have hlt:(ixB s i).length=t:=by
   have ha:=ixB_asc s n;rcases Nat.lt_trichotomy (ixB s i).length t with hl|hl|hl
   ·exfalso;have h1:(ixB s n)[(ixB s i).length]? = some i:=(by rw[hs,List.getElem?_append_right (Nat.le_refl _)];simp);have h2:=(List.pairwise_iff_getElem.1 ha) (ixB s i).length t (List.getElem?_eq_some_iff.1 h1).1 (List.getElem?_eq_some_iff.1 h).1 hl;rw[(List.getElem?_eq_some_iff.1 h1).2,(List.getElem?_eq_some_iff.1 h).2] at h2;omega
   ·exact hl
   ·exfalso;have h1:(ixB s n)[(ixB s i).length]? = some i:=(by rw[hs,List.getElem?_append_right (Nat.le_refl _)];simp);have h2:=(List.pairwise_iff_getElem.1 ha) t (ixB s i).length (List.getElem?_eq_some_iff.1 h).1 (List.getElem?_eq_some_iff.1 h1).1 hl;rw[(List.getElem?_eq_some_iff.1 h1).2,(List.getElem?_eq_some_iff.1 h).2] at h2;omega
  rw[hs,←hlt,List.take_left'];rfl
 rw[key,sumB_ixB];exact Nat.mod_lt _ (Nat.two_pow_pos i)
end Go.Proofs.YtfplipbkjglmhaaDoor
