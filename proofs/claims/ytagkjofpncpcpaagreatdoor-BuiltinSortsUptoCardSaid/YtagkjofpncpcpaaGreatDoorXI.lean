/- decimal.ToInt and datakitref02.ToInt: both compute the same of a valid decimal. -/
import Derived.Test.YtagkjofpncpcpaaGreatDoorProg
import Derived.Test.YtagkjofpncpcpaaGreatDoorGA
import Derived.Test.YtagkjofpncpcpaaGreatDoorGB
import Derived.Test.YtagkjofpncpcpaaGreatDoorGC
import Derived.Test.YtagkjofpncpcpaaGreatDoorShelf
import Derived.Test.YtagkjofpncpcpaaGreatDoorGD
import Derived.Test.YtagkjofpncpcpaaGreatDoorRow36
import Derived.Test.YtagkjofpncpcpaaGreatDoorChkq
import Derived.Test.YtagkjofpncpcpaaGreatDoorXA
import Derived.Test.YtagkjofpncpcpaaGreatDoorXE
import Derived.Test.YtagkjofpncpcpaaGreatDoorXF
namespace Go.Proofs.YtagkjofpncpcpaaGreatDoor
open Go.RowKit
theorem zerosS_size (n:Nat):(zerosS n).size=n:=by unfold zerosS;rw [strOfNums_size,List.length_replicate]
end Go.Proofs.YtagkjofpncpcpaaGreatDoor

/- decimal.ToInt: it computes what datakitref02.ToInt does, of a valid decimal. -/
namespace Go.Proofs.YtagkjofpncpcpaaGreatDoor
open Go.RowKit
end Go.Proofs.YtagkjofpncpcpaaGreatDoor

/- decimal.align. -/
namespace Go.Proofs.YtagkjofpncpcpaaGreatDoor
open Go.RowKit
theorem rep8_ex (m:Nat) (w:World) (hm:m≤1000):Calls Tryz.prog 106 #[.string ⟨#[48]⟩,.int .i64 m] w (NouR m w):=by
 refine (Tryz.strings_Repeat ⟨#[48]⟩ m w (by omega) (by first | omega | (show 1 * m≤_;omega))).mono ?_
 rintro e w' ⟨rfl,hb⟩
 exact ⟨by rw [← strOf_rep],hb⟩
def AlnR (x y:ByteArray) (w:World) (e:Ending) (w':World):Prop:=(∃ z:Int,e=.returned (.tuple #[.string x,.string y,.int .i64 z]))∧Below w.heap.size w w'
theorem results_tmp3' {fn:Func} {t u v:Tmp} (h:fn.results=#[.tmp t,.tmp u,.tmp v]) (tmps:Array Value) (P:Program) (w:World) :
 (results fn tmps).run P w=.ok (.tuple #[tmps.getD t undef,tmps.getD u undef,tmps.getD v undef]) w:=by
 simp [results,h]
set_option maxRecDepth 100000 in
set_option maxHeartbeats 3200000 in
theorem aln0a (a b:DecD) (w:World) (ha:VDec a) (hb:VDec b) (h0:a.digits.size=0) :
 Calls Tryz.prog 107 #[.agg #[.bool a.neg,.string a.digits,.int .i64 a.exp],.agg #[.bool b.neg,.string b.digits,.int .i64 b.exp]] w (AlnR (alignD a b).1 (alignD a b).2 w):=by
 have HQ:=Hd (show (alignD a b).1=⟨#[]⟩∧(alignD a b).2=b.digits by
  unfold alignD
  rw [if_pos (.inl h0)]
  exact ⟨by
   have:=Array.eq_empty_of_size_eq_zero (xs:=a.digits.data) h0
   cases h:a.digits with | mk data=>rw [h] at this;simp only at this;rw [this],rfl⟩)
 have hd:=toList_nil h0
 have HVA:=Hd ha
 have HVB:=Hd hb
 have HB:=Hd (show Below w.heap.size w ((w.alloc (.cells #[.bool a.neg,.string a.digits,.int .i64 a.exp] 24)).alloc (.cells #[.bool b.neg,.string b.digits,.int .i64 b.exp] 24)) from belowThen (belowBox w _) (belowBox _ _))
 have RA0:=Hd (show RowT 24 ((w.alloc (.cells #[.bool a.neg,.string a.digits,.int .i64 a.exp] 24)).alloc (.cells #[.bool b.neg,.string b.digits,.int .i64 b.exp] 24)) w.heap.size [.bool a.neg,.string a.digits,.int .i64 a.exp] from (RowT.new w 24 _).alloc _)
 have RB0:=Hd (show RowT 24 ((w.alloc (.cells #[.bool a.neg,.string a.digits,.int .i64 a.exp] 24)).alloc (.cells #[.bool b.neg,.string b.digits,.int .i64 b.exp] 24)) (w.heap.size+1) [.bool b.neg,.string b.digits,.int .i64 b.exp] from by
  have:=RowT.new (w.alloc (.cells #[.bool a.neg,.string a.digits,.int .i64 a.exp] 24)) 24 [.bool b.neg,.string b.digits,.int .i64 b.exp]
  rw [World.size_alloc] at this
  exact this)
 clear ha hb
 go_enter Tryz.func107,Tryz.ntmps107
 go_wp2_with fail
 refine (dec_valid a _ HVA.out).mono ?_
 rintro e w1 ⟨rfl,hb⟩
 have HB1:=Hd (belowThen HB.out hb)
 have RA1:=Hd (RA0.out.then hb)
 have RB1:=Hd (RB0.out.then hb)
 have d0:=RB1.out.cell (j:=0) (v:=.bool b.neg) rfl
 have d1:=RB1.out.cell (j:=1) (v:=.string b.digits) rfl
 have d2:=RB1.out.cell (j:=2) (v:=.int .i64 b.exp) rfl
 clear hb RA0 RB0
 go_wp2_with fail
 refine (dec_valid b _ HVB.out).mono ?_
 rintro e W ⟨rfl,hb⟩
 have HB2:=Hd (belowThen HB1.out hb)
 have RA:=Hd (RA1.out.then hb)
 have RB:=Hd (RB1.out.then hb)
 clear hb RA1 RB1 d0 d1 d2
 have c1:=RA.out.cell (j:=1) (v:=.string a.digits) rfl
 have c2:=RA.out.cell (j:=2) (v:=.int .i64 a.exp) rfl
 have d1:=RB.out.cell (j:=1) (v:=.string b.digits) rfl
 have d2:=RB.out.cell (j:=2) (v:=.int .i64 b.exp) rfl
 go_wp2_with fail
 go_quiet (fail)
 go_wp2_with fail
 refine bodyPost_ret (results_tmp3' rfl _ _ _) rfl ?_
 exact ⟨⟨_,by rw [HQ.out.1,HQ.out.2];rfl⟩,HB2.out.trans (drewNU _ _)⟩
set_option maxRecDepth 100000 in
set_option maxHeartbeats 3200000 in
theorem aln0b (a b:DecD) (w:World) (ha:VDec a) (hb:VDec b) (h0:b.digits.size=0) (h1:0<a.digits.size) :
 Calls Tryz.prog 107 #[.agg #[.bool a.neg,.string a.digits,.int .i64 a.exp],.agg #[.bool b.neg,.string b.digits,.int .i64 b.exp]] w (AlnR (alignD a b).1 (alignD a b).2 w):=by
 have HQ:=Hd (show (alignD a b).1=a.digits∧(alignD a b).2=⟨#[]⟩ by
  unfold alignD
  rw [if_pos (.inr h0)]
  exact ⟨rfl,by
   have:=Array.eq_empty_of_size_eq_zero (xs:=b.digits.data) h0
   cases h:b.digits with | mk data=>rw [h] at this;simp only at this;rw [this]⟩)
 have hd:=toList_nil h0
 have hd2:a.digits.toList.isEmpty=false:=by rw [List.isEmpty_eq_false_iff];exact ne_toList h1
 have HVA:=Hd ha
 have HVB:=Hd hb
 have HB:=Hd (show Below w.heap.size w ((w.alloc (.cells #[.bool a.neg,.string a.digits,.int .i64 a.exp] 24)).alloc (.cells #[.bool b.neg,.string b.digits,.int .i64 b.exp] 24)) from belowThen (belowBox w _) (belowBox _ _))
 have RA0:=Hd (show RowT 24 ((w.alloc (.cells #[.bool a.neg,.string a.digits,.int .i64 a.exp] 24)).alloc (.cells #[.bool b.neg,.string b.digits,.int .i64 b.exp] 24)) w.heap.size [.bool a.neg,.string a.digits,.int .i64 a.exp] from (RowT.new w 24 _).alloc _)
 have RB0:=Hd (show RowT 24 ((w.alloc (.cells #[.bool a.neg,.string a.digits,.int .i64 a.exp] 24)).alloc (.cells #[.bool b.neg,.string b.digits,.int .i64 b.exp] 24)) (w.heap.size+1) [.bool b.neg,.string b.digits,.int .i64 b.exp] from by
  have:=RowT.new (w.alloc (.cells #[.bool a.neg,.string a.digits,.int .i64 a.exp] 24)) 24 [.bool b.neg,.string b.digits,.int .i64 b.exp]
  rw [World.size_alloc] at this
  exact this)
 clear ha hb
 go_enter Tryz.func107,Tryz.ntmps107
 go_wp2_with fail
 refine (dec_valid a _ HVA.out).mono ?_
 rintro e w1 ⟨rfl,hb⟩
 have HB1:=Hd (belowThen HB.out hb)
 have RA1:=Hd (RA0.out.then hb)
 have RB1:=Hd (RB0.out.then hb)
 have d0:=RB1.out.cell (j:=0) (v:=.bool b.neg) rfl
 have d1:=RB1.out.cell (j:=1) (v:=.string b.digits) rfl
 have d2:=RB1.out.cell (j:=2) (v:=.int .i64 b.exp) rfl
 clear hb RA0 RB0
 go_wp2_with fail
 refine (dec_valid b _ HVB.out).mono ?_
 rintro e W ⟨rfl,hb⟩
 have HB2:=Hd (belowThen HB1.out hb)
 have RA:=Hd (RA1.out.then hb)
 have RB:=Hd (RB1.out.then hb)
 clear hb RA1 RB1 d0 d1 d2
 have c1:=RA.out.cell (j:=1) (v:=.string a.digits) rfl
 have c2:=RA.out.cell (j:=2) (v:=.int .i64 a.exp) rfl
 have d1:=RB.out.cell (j:=1) (v:=.string b.digits) rfl
 have d2:=RB.out.cell (j:=2) (v:=.int .i64 b.exp) rfl
 go_wp2_with fail
 go_quiet (fail)
 go_wp2_with fail
 refine bodyPost_ret (results_tmp3' rfl _ _ _) rfl ?_
 exact ⟨⟨_,by rw [HQ.out.1,HQ.out.2];rfl⟩,HB2.out.trans (drewNU _ _)⟩
set_option maxRecDepth 100000 in
set_option maxHeartbeats 3200000 in
theorem aln (a b:DecD) (w:World) (ha:VDec a) (hb:VDec b) (h0:0<a.digits.size) (h1:0<b.digits.size) :
 Calls Tryz.prog 107 #[.agg #[.bool a.neg,.string a.digits,.int .i64 a.exp],.agg #[.bool b.neg,.string b.digits,.int .i64 b.exp]] w (AlnR (alignD a b).1 (alignD a b).2 w):=by
 obtain ⟨mn,hmn⟩:∃ mn,mn=min a.exp b.exp:=⟨_,rfl⟩
 obtain ⟨ka,hka⟩:∃ k,k=(a.exp-mn).toNat:=⟨_,rfl⟩
 obtain ⟨kb,hkb⟩:∃ k,k=(b.exp-mn).toNat:=⟨_,rfl⟩
 have hEa:-400≤a.exp∧a.exp≤400∧a.digits.size≤120:=by rcases ha with h | h<;>omega
 have hEb:-400≤b.exp∧b.exp≤400∧b.digits.size≤120:=by rcases hb with h | h<;>omega
 have k1:(ka:Int)≤a.exp-mn:=by omega
 have k2:a.exp-mn≤(ka:Int):=by omega
 have k3:(kb:Int)≤b.exp-mn:=by omega
 have k4:b.exp-mn≤(kb:Int):=by omega
 have k5:ka≤800:=by omega
 have k6:kb≤800:=by omega
 obtain ⟨e1,e2,e3⟩:=hEa
 obtain ⟨e4,e5,e6⟩:=hEb
 have z1:(zerosS ka).size≤800:=by rw [zerosS_size];exact k5
 have z2:(zerosS kb).size≤800:=by rw [zerosS_size];exact k6
 have HMN:=Hd hmn
 have HQ:=Hd (show (alignD a b).1=a.digits++zerosS ka∧(alignD a b).2=b.digits++zerosS kb by
  unfold alignD padS
  rw [if_neg (by omega),← hmn,← hka,← hkb]
  exact ⟨rfl,rfl⟩)
 clear hmn hka hkb
 have hd:a.digits.toList.isEmpty=false:=by rw [List.isEmpty_eq_false_iff];exact ne_toList h0
 have hd2:b.digits.toList.isEmpty=false:=by rw [List.isEmpty_eq_false_iff];exact ne_toList h1
 have HVA:=Hd ha
 have HVB:=Hd hb
 have HB:=Hd (show Below w.heap.size w ((w.alloc (.cells #[.bool a.neg,.string a.digits,.int .i64 a.exp] 24)).alloc (.cells #[.bool b.neg,.string b.digits,.int .i64 b.exp] 24)) from belowThen (belowBox w _) (belowBox _ _))
 have RA0:=Hd (show RowT 24 ((w.alloc (.cells #[.bool a.neg,.string a.digits,.int .i64 a.exp] 24)).alloc (.cells #[.bool b.neg,.string b.digits,.int .i64 b.exp] 24)) w.heap.size [.bool a.neg,.string a.digits,.int .i64 a.exp] from (RowT.new w 24 _).alloc _)
 have RB0:=Hd (show RowT 24 ((w.alloc (.cells #[.bool a.neg,.string a.digits,.int .i64 a.exp] 24)).alloc (.cells #[.bool b.neg,.string b.digits,.int .i64 b.exp] 24)) (w.heap.size+1) [.bool b.neg,.string b.digits,.int .i64 b.exp] from by
  have:=RowT.new (w.alloc (.cells #[.bool a.neg,.string a.digits,.int .i64 a.exp] 24)) 24 [.bool b.neg,.string b.digits,.int .i64 b.exp]
  rw [World.size_alloc] at this
  exact this)
 clear ha hb
 go_enter Tryz.func107,Tryz.ntmps107
 go_wp2_with fail
 refine (dec_valid a _ HVA.out).mono ?_
 rintro e w1 ⟨rfl,hb⟩
 have HB1:=Hd (belowThen HB.out hb)
 have RA1:=Hd (RA0.out.then hb)
 have RB1:=Hd (RB0.out.then hb)
 have d0:=RB1.out.cell (j:=0) (v:=.bool b.neg) rfl
 have d1:=RB1.out.cell (j:=1) (v:=.string b.digits) rfl
 have d2:=RB1.out.cell (j:=2) (v:=.int .i64 b.exp) rfl
 clear hb RA0 RB0
 go_wp2_with fail
 refine (dec_valid b _ HVB.out).mono ?_
 rintro e W ⟨rfl,hb⟩
 have HB2:=Hd (belowThen HB1.out hb)
 have RA:=Hd (RA1.out.then hb)
 have RB:=Hd (RB1.out.then hb)
 clear hb RA1 RB1 d0 d1 d2
 have c1:=RA.out.cell (j:=1) (v:=.string a.digits) rfl
 have c2:=RA.out.cell (j:=2) (v:=.int .i64 a.exp) rfl
 have d1:=RB.out.cell (j:=1) (v:=.string b.digits) rfl
 have d2:=RB.out.cell (j:=2) (v:=.int .i64 b.exp) rfl
 go_wp2_with fail
 rw [← HMN.out]
 refine wp_region_held_drew (S:=fun u=>Below W.heap.size W u) (by kernel_rfl) (drewU W) (fun hHeld=>?_)
 refine' tk 0 (.pointer (some ⟨w.heap.size,1,none⟩)) rfl rfl (.inl ⟨by rfl,fun u hu=>(by go_simp)⟩) hHeld ?_
 simp only [sq1,sq0]
 refine' tk 1 (.string a.digits) rfl rfl (.inl ⟨by rfl,fun u hu=>(by have hc:=(RA.out.then hu).cell (j:=1) (v:=.string a.digits) rfl;go_simp)⟩) hHeld ?_
 simp only [sq1,sq0]
 refine' tk 2 (.pointer (some ⟨w.heap.size,2,none⟩)) rfl rfl (.inl ⟨by rfl,fun u hu=>(by go_simp)⟩) hHeld ?_
 simp only [sq1,sq0]
 refine' tk 3 (.int .i64 a.exp) rfl rfl (.inl ⟨by rfl,fun u hu=>(by have hc:=(RA.out.then hu).cell (j:=2) (v:=.int .i64 a.exp) rfl;go_simp)⟩) hHeld ?_
 simp only [sq1,sq0]
 refine' tk 4 (.int .i64 mn) rfl rfl (.inl ⟨by rfl,fun u hu=>(by go_simp)⟩) hHeld ?_
 simp only [sq1,sq0]
 refine' tk 5 (.int .i64 ((ka:Nat):Int)) rfl rfl (.inl ⟨by rfl,fun u hu=>(by go_simp;all_goals first | omega | (rw [IntKind.wrap_i64];omega))⟩) hHeld ?_
 simp only [sq1,sq0]
 refine' tk 8 (.pointer (some ⟨(w.heap.size+1),1,none⟩)) rfl rfl (.inl ⟨by rfl,fun u hu=>(by go_simp)⟩) hHeld ?_
 simp only [sq1,sq0]
 refine' tk 9 (.string b.digits) rfl rfl (.inl ⟨by rfl,fun u hu=>(by have hc:=(RB.out.then hu).cell (j:=1) (v:=.string b.digits) rfl;go_simp)⟩) hHeld ?_
 simp only [sq1,sq0]
 refine' tk 10 (.pointer (some ⟨(w.heap.size+1),2,none⟩)) rfl rfl (.inl ⟨by rfl,fun u hu=>(by go_simp)⟩) hHeld ?_
 simp only [sq1,sq0]
 refine' tk 11 (.int .i64 b.exp) rfl rfl (.inl ⟨by rfl,fun u hu=>(by have hc:=(RB.out.then hu).cell (j:=2) (v:=.int .i64 b.exp) rfl;go_simp)⟩) hHeld ?_
 simp only [sq1,sq0]
 refine' tk 12 (.int .i64 mn) rfl rfl (.inl ⟨by rfl,fun u hu=>(by go_simp)⟩) hHeld ?_
 simp only [sq1,sq0]
 refine' tk 13 (.int .i64 ((kb:Nat):Int)) rfl rfl (.inl ⟨by rfl,fun u hu=>(by go_simp;all_goals first | omega | (rw [IntKind.wrap_i64];omega))⟩) hHeld ?_
 simp only [sq1,sq0]
 refine' tk 16 (.int .i64 mn) rfl rfl (.inl ⟨by rfl,fun u hu=>(by go_simp)⟩) hHeld ?_
 simp only [sq1,sq0]
 refine rd1 6 rfl (fun K hK=>?_)
 rw [if_pos (by rfl)]
 go_simp
 refine (rep8_ex ka _ (by omega)).mono ?_
 rintro e u6 ⟨rfl,hbC⟩
 refine hK.out _ _ (hHeld.trans (hbC.mono hHeld.size)) (fun hHeldx=>?_)
 clear hK K hbC hHeld
 have hHeld:=hHeldx
 clear hHeldx
 refine' tk 7 (.string (a.digits++zerosS ka)) rfl rfl (.inl ⟨by rfl,fun u hu=>(by go_simp;all_goals omega)⟩) hHeld ?_
 simp only [sq1,sq0]
 refine rd1 14 rfl (fun K hK=>?_)
 rw [if_pos (by rfl)]
 go_simp
 refine (rep8_ex kb _ (by omega)).mono ?_
 rintro e u14 ⟨rfl,hbC⟩
 refine hK.out _ _ (hHeld.trans (hbC.mono hHeld.size)) (fun hHeldx=>?_)
 clear hK K hbC hHeld
 have hHeld:=hHeldx
 clear hHeldx
 refine' tk 15 (.string (b.digits++zerosS kb)) rfl rfl (.inl ⟨by rfl,fun u hu=>(by go_simp;all_goals omega)⟩) hHeld ?_
 simp only [sq1,sq0]
 refine' tk 17 (.string (a.digits++zerosS ka)) rfl rfl (.inl ⟨by rfl,fun u hu=>(by go_simp)⟩) hHeld ?_
 simp only [sq1,sq0]
 refine' tk 18 (.string (b.digits++zerosS kb)) rfl rfl (.inl ⟨by rfl,fun u hu=>(by go_simp)⟩) hHeld ?_
 simp only [sq1,sq0]
 refine' tk 19 (.int .i64 mn) rfl rfl (.inl ⟨by rfl,fun u hu=>(by go_simp)⟩) hHeld ?_
 simp only [sq1,sq0]
 refine wpAnyH_done (by kernel_rfl) ?_ _
 have HW:=Hd hHeld
 clear hHeld
 go_wp2_with fail
 refine bodyPost_ret (results_tmp3' rfl _ _ _) rfl ?_
 exact ⟨⟨_,by rw [HQ.out.1,HQ.out.2];rfl⟩,HB2.out.trans (HW.out.mono HB2.out.size)⟩
end Go.Proofs.YtagkjofpncpcpaaGreatDoor

/- decimal.size, decimal.Cmp. -/
namespace Go.Proofs.YtagkjofpncpcpaaGreatDoor
open Go.RowKit
theorem align_p (a b:DecD) (w:World) (ha:VDec a) (hb:VDec b) :
 Calls Tryz.prog 107 #[.agg #[.bool a.neg,.string a.digits,.int .i64 a.exp],.agg #[.bool b.neg,.string b.digits,.int .i64 b.exp]] w (AlnR (alignD a b).1 (alignD a b).2 w):=by
 by_cases h0:a.digits.size=0
 ·exact aln0a a b w ha hb h0
 ·by_cases h1:b.digits.size=0
  ·exact aln0b a b w ha hb h1 (by omega)
  ·exact aln a b w ha hb (by omega) (by omega)
set_option maxRecDepth 100000 in
theorem dsize_p (a b:DecD) (w:World) (ha:VDec a) (hb:VDec b) :
 Calls Tryz.prog 127 #[.agg #[.bool a.neg,.string a.digits,.int .i64 a.exp],.agg #[.bool b.neg,.string b.digits,.int .i64 b.exp]] w (CmpE (magC a b) w):=by
 have HVA:=Hd ha
 have HVB:=Hd hb
 have HB:=Hd (show Below w.heap.size w ((w.alloc (.cells #[.bool a.neg,.string a.digits,.int .i64 a.exp] 24)).alloc (.cells #[.bool b.neg,.string b.digits,.int .i64 b.exp] 24)) from belowThen (belowBox w _) (belowBox _ _))
 clear ha hb
 obtain ⟨x,hx⟩:∃ x,x=(alignD a b).1:=⟨_,rfl⟩
 obtain ⟨y,hy⟩:∃ y,y=(alignD a b).2:=⟨_,rfl⟩
 obtain ⟨r,hr⟩:∃ r,r=magC a b:=⟨_,rfl⟩
 rw [← hr]
 have HR:=Hd (show r=lenC x y by rw [hr,hx,hy];rfl)
 have HX:=Hd hx
 have HY:=Hd hy
 clear hr hx hy
 go_enter Tryz.func127,Tryz.ntmps127
 go_wp2_with fail
 refine (align_p a b _ HVA.out HVB.out).mono ?_
 rintro e w1 ⟨⟨z,rfl⟩,hb⟩
 rw [← HX.out,← HY.out]
 have HB1:=Hd (belowThen HB.out hb)
 clear hb
 go_wp2_with (go_at_call 125;refine (dcmp_p _ _ _).mono ?_;rintro e w2 ⟨rfl,rfl⟩;rw [← HR.out])
 go_ret
 exact ⟨rfl,HB1.out⟩
end Go.Proofs.YtagkjofpncpcpaaGreatDoor

/- decimal.Cmp. -/
namespace Go.Proofs.YtagkjofpncpcpaaGreatDoor
open Go.RowKit
set_option maxRecDepth 100000 in
set_option maxHeartbeats 1600000 in
theorem deccmp_p (a b:DecD) (w:World) (ha:VDec a) (hb:VDec b) :
 Calls Tryz.prog 56 #[.agg #[.bool a.neg,.string a.digits,.int .i64 a.exp],.agg #[.bool b.neg,.string b.digits,.int .i64 b.exp]] w (CmpE (decC a b) w):=by
 obtain ⟨na,da,ea⟩:=a
 obtain ⟨nb,db,eb⟩:=b
 have HVA:=Hd ha
 have HVB:=Hd hb
 clear ha hb
 have D1:=Hd (fun w=>dsize_p ⟨na,da,ea⟩ ⟨nb,db,eb⟩ w HVA.out HVB.out)
 have D2:=Hd (fun w=>dsize_p ⟨nb,db,eb⟩ ⟨na,da,ea⟩ w HVB.out HVA.out)
 obtain ⟨r,hr⟩:∃ r,r=decC ⟨na,da,ea⟩ ⟨nb,db,eb⟩:=⟨_,rfl⟩
 rw [← hr]
 have HR:=Hd hr
 clear hr HVA HVB
 have HB:=Hd (show Below w.heap.size w ((w.alloc (.cells #[.bool na,.string da,.int .i64 ea] 24)).alloc (.cells #[.bool nb,.string db,.int .i64 eb] 24)) from belowThen (belowBox w _) (belowBox _ _))
 dsimp only
 cases na<;>cases nb
 ·go_enter Tryz.func56,Tryz.ntmps56
  go_wp2_with fail
  refine (D1.out _).mono ?_
  rintro e w1 ⟨rfl,hb⟩
  have HB1:=Hd (belowThen HB.out hb)
  clear hb
  rw [show magC ⟨false,da,ea⟩ ⟨false,db,eb⟩=r from HR.out.symm]
  go_wp2_with fail
  go_ret
  exact ⟨rfl,HB1.out⟩
 ·go_enter Tryz.func56,Tryz.ntmps56
  go_wp2_with fail
  go_ret
  exact ⟨by rw [HR.out];rfl,HB.out⟩
 ·go_enter Tryz.func56,Tryz.ntmps56
  go_wp2_with fail
  go_ret
  exact ⟨by rw [HR.out];rfl,HB.out⟩
 ·go_enter Tryz.func56,Tryz.ntmps56
  go_wp2_with fail
  refine (D2.out _).mono ?_
  rintro e w1 ⟨rfl,hb⟩
  have HB1:=Hd (belowThen HB.out hb)
  clear hb
  rw [show magC ⟨true,db,eb⟩ ⟨true,da,ea⟩=r from HR.out.symm]
  go_wp2_with fail
  go_ret
  exact ⟨rfl,HB1.out⟩
end Go.Proofs.YtagkjofpncpcpaaGreatDoor

/- datakitref02.size where one of the two has no digits, or where one is longer. -/
namespace Go.Proofs.YtagkjofpncpcpaaGreatDoor
open Go.RowKit
set_option maxRecDepth 100000 in
theorem size02_0a (a b:DecD) (w:World) (h0:a.digits.size=0) :
 Calls Tryz.prog 90 #[.agg #[.bool a.neg,.string a.digits,.int .i64 a.exp],.agg #[.bool b.neg,.string b.digits,.int .i64 b.exp]] w (CmpE (magC a b) w):=by
 have HB:=Hd (show Below w.heap.size w ((w.alloc (.cells #[.bool a.neg,.string a.digits,.int .i64 a.exp] 24)).alloc (.cells #[.bool b.neg,.string b.digits,.int .i64 b.exp] 24)) from belowThen (belowBox w _) (belowBox _ _))
 obtain ⟨r,hr⟩:∃ r,r=magC a b:=⟨_,rfl⟩
 rw [← hr]
 have HR:=Hd (show r=lenC a.digits b.digits by rw [hr];exact magC_0 (.inl h0))
 have hd:a.digits.toList.isEmpty=true:=by rw [toList_nil h0];rfl
 clear hr h0
 go_enter Tryz.func90,Tryz.ntmps90
 go_wp2_with (go_at_call 151;refine (cmp01_r _ _ _).mono ?_;rintro e w2 ⟨rfl,rfl⟩;rw [← HR.out])
 go_ret
 exact ⟨rfl,HB.out⟩
set_option maxRecDepth 100000 in
theorem size02_0b (a b:DecD) (w:World) (h0:b.digits.size=0) (h1:0<a.digits.size) :
 Calls Tryz.prog 90 #[.agg #[.bool a.neg,.string a.digits,.int .i64 a.exp],.agg #[.bool b.neg,.string b.digits,.int .i64 b.exp]] w (CmpE (magC a b) w):=by
 have HB:=Hd (show Below w.heap.size w ((w.alloc (.cells #[.bool a.neg,.string a.digits,.int .i64 a.exp] 24)).alloc (.cells #[.bool b.neg,.string b.digits,.int .i64 b.exp] 24)) from belowThen (belowBox w _) (belowBox _ _))
 obtain ⟨r,hr⟩:∃ r,r=magC a b:=⟨_,rfl⟩
 rw [← hr]
 have HR:=Hd (show r=lenC a.digits b.digits by rw [hr];exact magC_0 (.inr h0))
 have hd:b.digits.toList.isEmpty=true:=by rw [toList_nil h0];rfl
 have hd2:a.digits.toList.isEmpty=false:=by rw [List.isEmpty_eq_false_iff];exact ne_toList h1
 clear hr h0 h1
 go_enter Tryz.func90,Tryz.ntmps90
 go_wp2_with (go_at_call 151;refine (cmp01_r _ _ _).mono ?_;rintro e w2 ⟨rfl,rfl⟩;rw [← HR.out])
 go_ret
 exact ⟨rfl,HB.out⟩
end Go.Proofs.YtagkjofpncpcpaaGreatDoor

/- datakitref02.size where one number is longer. -/
namespace Go.Proofs.YtagkjofpncpcpaaGreatDoor
open Go.RowKit
set_option maxRecDepth 100000 in
theorem size02_lt (a b:DecD) (w:World) (ha:VDec a) (hb:VDec b) (h0:0<a.digits.size) (h1:0<b.digits.size) (h:(a.digits.size:Int)+a.exp<b.digits.size+b.exp) :
 Calls Tryz.prog 90 #[.agg #[.bool a.neg,.string a.digits,.int .i64 a.exp],.agg #[.bool b.neg,.string b.digits,.int .i64 b.exp]] w (CmpE (magC a b) w):=by
 have HB:=Hd (show Below w.heap.size w ((w.alloc (.cells #[.bool a.neg,.string a.digits,.int .i64 a.exp] 24)).alloc (.cells #[.bool b.neg,.string b.digits,.int .i64 b.exp] 24)) from belowThen (belowBox w _) (belowBox _ _))
 obtain ⟨r,hr⟩:∃ r,r=magC a b:=⟨_,rfl⟩
 rw [← hr]
 have HR:=Hd (show r=-1 by rw [hr];exact (magC_ref (by omega) (by omega)).1 h)
 have hEa:-400≤a.exp∧a.exp≤400∧a.digits.size≤120:=by rcases ha with h | h<;>omega
 have hEb:-400≤b.exp∧b.exp≤400∧b.digits.size≤120:=by rcases hb with h | h<;>omega
 obtain ⟨e1,e2,e3⟩:=hEa
 obtain ⟨e4,e5,e6⟩:=hEb
 have hd:a.digits.toList.isEmpty=false:=by rw [List.isEmpty_eq_false_iff];exact ne_toList h0
 have hd2:b.digits.toList.isEmpty=false:=by rw [List.isEmpty_eq_false_iff];exact ne_toList h1
 clear hr ha hb
 go_enter Tryz.func90,Tryz.ntmps90
 go_wp2_with fail
 go_quiet (fail)
 go_wp2_with fail
 go_ret
 exact ⟨by rw [HR.out];rfl,HB.out.trans (drewNU _ _)⟩
set_option maxRecDepth 100000 in
theorem size02_gt (a b:DecD) (w:World) (ha:VDec a) (hb:VDec b) (h0:0<a.digits.size) (h1:0<b.digits.size) (h:(b.digits.size:Int)+b.exp<a.digits.size+a.exp) :
 Calls Tryz.prog 90 #[.agg #[.bool a.neg,.string a.digits,.int .i64 a.exp],.agg #[.bool b.neg,.string b.digits,.int .i64 b.exp]] w (CmpE (magC a b) w):=by
 have HB:=Hd (show Below w.heap.size w ((w.alloc (.cells #[.bool a.neg,.string a.digits,.int .i64 a.exp] 24)).alloc (.cells #[.bool b.neg,.string b.digits,.int .i64 b.exp] 24)) from belowThen (belowBox w _) (belowBox _ _))
 obtain ⟨r,hr⟩:∃ r,r=magC a b:=⟨_,rfl⟩
 rw [← hr]
 have HR:=Hd (show r=1 by rw [hr];exact (magC_ref (by omega) (by omega)).2.1 h)
 have hEa:-400≤a.exp∧a.exp≤400∧a.digits.size≤120:=by rcases ha with h | h<;>omega
 have hEb:-400≤b.exp∧b.exp≤400∧b.digits.size≤120:=by rcases hb with h | h<;>omega
 obtain ⟨e1,e2,e3⟩:=hEa
 obtain ⟨e4,e5,e6⟩:=hEb
 have hd:a.digits.toList.isEmpty=false:=by rw [List.isEmpty_eq_false_iff];exact ne_toList h0
 have hd2:b.digits.toList.isEmpty=false:=by rw [List.isEmpty_eq_false_iff];exact ne_toList h1
 clear hr ha hb
 go_enter Tryz.func90,Tryz.ntmps90
 go_wp2_with fail
 go_quiet (fail)
 go_wp2_with fail
 go_ret
 exact ⟨by rw [HR.out];rfl,HB.out.trans (drewNU _ _)⟩
end Go.Proofs.YtagkjofpncpcpaaGreatDoor

/- datakitref02.size where both are equally long. -/
namespace Go.Proofs.YtagkjofpncpcpaaGreatDoor
open Go.RowKit
set_option maxRecDepth 100000 in
set_option maxHeartbeats 3200000 in
theorem size02_eqA (a b:DecD) (w:World) (ha:VDec a) (hb:VDec b) (h0:0<a.digits.size) (h1:0<b.digits.size) (h:(a.digits.size:Int)+a.exp=b.digits.size+b.exp) (hs:b.digits.size≤a.digits.size) :
 Calls Tryz.prog 90 #[.agg #[.bool a.neg,.string a.digits,.int .i64 a.exp],.agg #[.bool b.neg,.string b.digits,.int .i64 b.exp]] w (CmpE (magC a b) w):=by
 obtain ⟨W0,hW0⟩:∃ W,W=(w.alloc (.cells #[.bool a.neg,.string a.digits,.int .i64 a.exp] 24)).alloc (.cells #[.bool b.neg,.string b.digits,.int .i64 b.exp] 24):=⟨_,rfl⟩
 have HB:=Hd (show Below w.heap.size w W0 by rw [hW0];exact belowThen (belowBox w _) (belowBox _ _))
 have RA0:=Hd (show RowT 24 W0 w.heap.size [.bool a.neg,.string a.digits,.int .i64 a.exp] by rw [hW0];exact (RowT.new w 24 _).alloc _)
 have RB0:=Hd (show RowT 24 W0 (w.heap.size+1) [.bool b.neg,.string b.digits,.int .i64 b.exp] by
  rw [hW0]
  have:=RowT.new (w.alloc (.cells #[.bool a.neg,.string a.digits,.int .i64 a.exp] 24)) 24 [.bool b.neg,.string b.digits,.int .i64 b.exp]
  rw [World.size_alloc] at this
  exact this)
 have HW0:=Hd hW0
 obtain ⟨ka,hka⟩:∃ k,k=max a.digits.size b.digits.size-a.digits.size:=⟨_,rfl⟩
 obtain ⟨kb,hkb⟩:∃ k,k=max a.digits.size b.digits.size-b.digits.size:=⟨_,rfl⟩
 obtain ⟨r,hr⟩:∃ r,r=magC a b:=⟨_,rfl⟩
 rw [← hr]
 have HR:=Hd (show r=lenC (a.digits++zerosS ka) (b.digits++zerosS kb) by rw [hr,(magC_ref (by omega) (by omega)).2.2 h,hka,hkb];rfl)
 have hEa:-400≤a.exp∧a.exp≤400∧a.digits.size≤120:=by rcases ha with h | h<;>omega
 have hEb:-400≤b.exp∧b.exp≤400∧b.digits.size≤120:=by rcases hb with h | h<;>omega
 obtain ⟨e1,e2,e3⟩:=hEa
 obtain ⟨e4,e5,e6⟩:=hEb
 have k1:(ka:Int)+a.digits.size≤a.digits.size:=by omega
 have k2:(a.digits.size:Int)≤ka+a.digits.size:=by omega
 have k3:(kb:Int)+b.digits.size≤a.digits.size:=by omega
 have k4:(a.digits.size:Int)≤kb+b.digits.size:=by omega
 have z1:(zerosS ka).size≤120:=by rw [zerosS_size];omega
 have z2:(zerosS kb).size≤120:=by rw [zerosS_size];omega
 have hl1:(a.digits.size:Int)+a.exp≤b.digits.size+b.exp:=by omega
 have hl2:(b.digits.size:Int)+b.exp≤a.digits.size+a.exp:=by omega
 have hd:a.digits.toList.isEmpty=false:=by rw [List.isEmpty_eq_false_iff];exact ne_toList h0
 have hd2:b.digits.toList.isEmpty=false:=by rw [List.isEmpty_eq_false_iff];exact ne_toList h1
 clear hr ha hb h hka hkb hW0
 go_enter Tryz.func90,Tryz.ntmps90
 go_wp2_with fail
 go_quiet (fail)
 rw [← HW0.out]
 obtain ⟨W,hW⟩:∃ W,W=W0.drewN nq:=⟨_,rfl⟩
 rw [← hW]
 have HBW:=Hd (show Below w.heap.size w W by rw [hW];exact HB.out.trans (drewNU _ _))
 have RA:=Hd (show RowT 24 W w.heap.size [.bool a.neg,.string a.digits,.int .i64 a.exp] by rw [hW];exact RA0.out.then (drewNU _ _))
 have RB:=Hd (show RowT 24 W (w.heap.size+1) [.bool b.neg,.string b.digits,.int .i64 b.exp] by rw [hW];exact RB0.out.then (drewNU _ _))
 have c1:=RA.out.cell (j:=1) (v:=.string a.digits) rfl
 have d1:=RB.out.cell (j:=1) (v:=.string b.digits) rfl
 clear hW HW0
 go_wp2_with fail
 refine wp_region_held_drew (S:=fun u=>Below W.heap.size W u) (by kernel_rfl) (drewU W) (fun hHeld=>?_)
 refine' tk 0 (.pointer (some ⟨w.heap.size,1,none⟩)) rfl rfl (.inl ⟨by rfl,fun u hu=>(by go_simp)⟩) hHeld ?_
 simp only [sq1,sq0]
 refine' tk 1 (.string a.digits) rfl rfl (.inl ⟨by rfl,fun u hu=>(by have hc:=(RA.out.then hu).cell (j:=1) (v:=.string a.digits) rfl;go_simp)⟩) hHeld ?_
 simp only [sq1,sq0]
 refine' tk 2 (.int .i64 (a.digits.size:Int)) rfl rfl (.inl ⟨by rfl,fun u hu=>(by go_simp)⟩) hHeld ?_
 simp only [sq1,sq0]
 refine' tk 3 (.pointer (some ⟨w.heap.size,1,none⟩)) rfl rfl (.inl ⟨by rfl,fun u hu=>(by go_simp)⟩) hHeld ?_
 simp only [sq1,sq0]
 refine' tk 4 (.string a.digits) rfl rfl (.inl ⟨by rfl,fun u hu=>(by have hc:=(RA.out.then hu).cell (j:=1) (v:=.string a.digits) rfl;go_simp)⟩) hHeld ?_
 simp only [sq1,sq0]
 refine' tk 5 (.int .i64 (a.digits.size:Int)) rfl rfl (.inl ⟨by rfl,fun u hu=>(by go_simp)⟩) hHeld ?_
 simp only [sq1,sq0]
 refine' tk 6 (.int .i64 ((ka:Nat):Int)) rfl rfl (.inl ⟨by rfl,fun u hu=>(by go_simp;all_goals first | omega | (rw [IntKind.wrap_i64];omega))⟩) hHeld ?_
 simp only [sq1,sq0]
 refine' tk 9 (.pointer (some ⟨(w.heap.size+1),1,none⟩)) rfl rfl (.inl ⟨by rfl,fun u hu=>(by go_simp)⟩) hHeld ?_
 simp only [sq1,sq0]
 refine' tk 10 (.string b.digits) rfl rfl (.inl ⟨by rfl,fun u hu=>(by have hc:=(RB.out.then hu).cell (j:=1) (v:=.string b.digits) rfl;go_simp)⟩) hHeld ?_
 simp only [sq1,sq0]
 refine' tk 11 (.int .i64 (a.digits.size:Int)) rfl rfl (.inl ⟨by rfl,fun u hu=>(by go_simp)⟩) hHeld ?_
 simp only [sq1,sq0]
 refine' tk 12 (.pointer (some ⟨(w.heap.size+1),1,none⟩)) rfl rfl (.inl ⟨by rfl,fun u hu=>(by go_simp)⟩) hHeld ?_
 simp only [sq1,sq0]
 refine' tk 13 (.string b.digits) rfl rfl (.inl ⟨by rfl,fun u hu=>(by have hc:=(RB.out.then hu).cell (j:=1) (v:=.string b.digits) rfl;go_simp)⟩) hHeld ?_
 simp only [sq1,sq0]
 refine' tk 14 (.int .i64 (b.digits.size:Int)) rfl rfl (.inl ⟨by rfl,fun u hu=>(by go_simp)⟩) hHeld ?_
 simp only [sq1,sq0]
 refine' tk 15 (.int .i64 ((kb:Nat):Int)) rfl rfl (.inl ⟨by rfl,fun u hu=>(by go_simp;all_goals first | omega | (rw [IntKind.wrap_i64];omega))⟩) hHeld ?_
 simp only [sq1,sq0]
 refine rd1 7 rfl (fun K hK=>?_)
 rw [if_pos (by rfl)]
 go_simp
 refine (noughts_ex ka _ (by omega)).mono ?_
 rintro e u7 ⟨rfl,hbC⟩
 refine hK.out _ _ (hHeld.trans (hbC.mono hHeld.size)) (fun hHeldx=>?_)
 clear hK K hbC hHeld
 have hHeld:=hHeldx
 clear hHeldx
 refine' tk 8 (.string (a.digits++zerosS ka)) rfl rfl (.inl ⟨by rfl,fun u hu=>(by go_simp;all_goals omega)⟩) hHeld ?_
 simp only [sq1,sq0]
 refine rd1 16 rfl (fun K hK=>?_)
 rw [if_pos (by rfl)]
 go_simp
 refine (noughts_ex kb _ (by omega)).mono ?_
 rintro e u16 ⟨rfl,hbC⟩
 refine hK.out _ _ (hHeld.trans (hbC.mono hHeld.size)) (fun hHeldx=>?_)
 clear hK K hbC hHeld
 have hHeld:=hHeldx
 clear hHeldx
 refine' tk 17 (.string (b.digits++zerosS kb)) rfl rfl (.inl ⟨by rfl,fun u hu=>(by go_simp;all_goals omega)⟩) hHeld ?_
 simp only [sq1,sq0]
 refine rd1 18 rfl (fun K hK=>?_)
 rw [if_pos (by rfl)]
 go_simp
 refine (cmp01_r _ _ _).mono ?_
 rintro e u18 ⟨rfl,rfl⟩
 rw [← HR.out]
 refine hK.out _ _ hHeld (fun hHeldx=>?_)
 clear hK K hHeldx
 refine' tk 19 (.int .i64 r) rfl rfl (.inl ⟨by rfl,fun u hu=>(by go_simp)⟩) hHeld ?_
 simp only [sq1,sq0]
 refine wpAnyH_done (by kernel_rfl) ?_ _
 go_wp2_with fail
 go_ret
 exact ⟨rfl,HBW.out.trans (hHeld.mono HBW.out.size)⟩
set_option maxRecDepth 100000 in
set_option maxHeartbeats 3200000 in
theorem size02_eqB (a b:DecD) (w:World) (ha:VDec a) (hb:VDec b) (h0:0<a.digits.size) (h1:0<b.digits.size) (h:(a.digits.size:Int)+a.exp=b.digits.size+b.exp) (hs:a.digits.size<b.digits.size) :
 Calls Tryz.prog 90 #[.agg #[.bool a.neg,.string a.digits,.int .i64 a.exp],.agg #[.bool b.neg,.string b.digits,.int .i64 b.exp]] w (CmpE (magC a b) w):=by
 obtain ⟨W0,hW0⟩:∃ W,W=(w.alloc (.cells #[.bool a.neg,.string a.digits,.int .i64 a.exp] 24)).alloc (.cells #[.bool b.neg,.string b.digits,.int .i64 b.exp] 24):=⟨_,rfl⟩
 have HB:=Hd (show Below w.heap.size w W0 by rw [hW0];exact belowThen (belowBox w _) (belowBox _ _))
 have RA0:=Hd (show RowT 24 W0 w.heap.size [.bool a.neg,.string a.digits,.int .i64 a.exp] by rw [hW0];exact (RowT.new w 24 _).alloc _)
 have RB0:=Hd (show RowT 24 W0 (w.heap.size+1) [.bool b.neg,.string b.digits,.int .i64 b.exp] by
  rw [hW0]
  have:=RowT.new (w.alloc (.cells #[.bool a.neg,.string a.digits,.int .i64 a.exp] 24)) 24 [.bool b.neg,.string b.digits,.int .i64 b.exp]
  rw [World.size_alloc] at this
  exact this)
 have HW0:=Hd hW0
 obtain ⟨ka,hka⟩:∃ k,k=max a.digits.size b.digits.size-a.digits.size:=⟨_,rfl⟩
 obtain ⟨kb,hkb⟩:∃ k,k=max a.digits.size b.digits.size-b.digits.size:=⟨_,rfl⟩
 obtain ⟨r,hr⟩:∃ r,r=magC a b:=⟨_,rfl⟩
 rw [← hr]
 have HR:=Hd (show r=lenC (a.digits++zerosS ka) (b.digits++zerosS kb) by rw [hr,(magC_ref (by omega) (by omega)).2.2 h,hka,hkb];rfl)
 have hEa:-400≤a.exp∧a.exp≤400∧a.digits.size≤120:=by rcases ha with h | h<;>omega
 have hEb:-400≤b.exp∧b.exp≤400∧b.digits.size≤120:=by rcases hb with h | h<;>omega
 obtain ⟨e1,e2,e3⟩:=hEa
 obtain ⟨e4,e5,e6⟩:=hEb
 have k1:(ka:Int)+a.digits.size≤b.digits.size:=by omega
 have k2:(b.digits.size:Int)≤ka+a.digits.size:=by omega
 have k3:(kb:Int)+b.digits.size≤b.digits.size:=by omega
 have k4:(b.digits.size:Int)≤kb+b.digits.size:=by omega
 have z1:(zerosS ka).size≤120:=by rw [zerosS_size];omega
 have z2:(zerosS kb).size≤120:=by rw [zerosS_size];omega
 have hl1:(a.digits.size:Int)+a.exp≤b.digits.size+b.exp:=by omega
 have hl2:(b.digits.size:Int)+b.exp≤a.digits.size+a.exp:=by omega
 have hd:a.digits.toList.isEmpty=false:=by rw [List.isEmpty_eq_false_iff];exact ne_toList h0
 have hd2:b.digits.toList.isEmpty=false:=by rw [List.isEmpty_eq_false_iff];exact ne_toList h1
 clear hr ha hb h hka hkb hW0
 go_enter Tryz.func90,Tryz.ntmps90
 go_wp2_with fail
 go_quiet (fail)
 rw [← HW0.out]
 obtain ⟨W,hW⟩:∃ W,W=W0.drewN nq:=⟨_,rfl⟩
 rw [← hW]
 have HBW:=Hd (show Below w.heap.size w W by rw [hW];exact HB.out.trans (drewNU _ _))
 have RA:=Hd (show RowT 24 W w.heap.size [.bool a.neg,.string a.digits,.int .i64 a.exp] by rw [hW];exact RA0.out.then (drewNU _ _))
 have RB:=Hd (show RowT 24 W (w.heap.size+1) [.bool b.neg,.string b.digits,.int .i64 b.exp] by rw [hW];exact RB0.out.then (drewNU _ _))
 have c1:=RA.out.cell (j:=1) (v:=.string a.digits) rfl
 have d1:=RB.out.cell (j:=1) (v:=.string b.digits) rfl
 clear hW HW0
 go_wp2_with fail
 refine wp_region_held_drew (S:=fun u=>Below W.heap.size W u) (by kernel_rfl) (drewU W) (fun hHeld=>?_)
 refine' tk 0 (.pointer (some ⟨w.heap.size,1,none⟩)) rfl rfl (.inl ⟨by rfl,fun u hu=>(by go_simp)⟩) hHeld ?_
 simp only [sq1,sq0]
 refine' tk 1 (.string a.digits) rfl rfl (.inl ⟨by rfl,fun u hu=>(by have hc:=(RA.out.then hu).cell (j:=1) (v:=.string a.digits) rfl;go_simp)⟩) hHeld ?_
 simp only [sq1,sq0]
 refine' tk 2 (.int .i64 (b.digits.size:Int)) rfl rfl (.inl ⟨by rfl,fun u hu=>(by go_simp)⟩) hHeld ?_
 simp only [sq1,sq0]
 refine' tk 3 (.pointer (some ⟨w.heap.size,1,none⟩)) rfl rfl (.inl ⟨by rfl,fun u hu=>(by go_simp)⟩) hHeld ?_
 simp only [sq1,sq0]
 refine' tk 4 (.string a.digits) rfl rfl (.inl ⟨by rfl,fun u hu=>(by have hc:=(RA.out.then hu).cell (j:=1) (v:=.string a.digits) rfl;go_simp)⟩) hHeld ?_
 simp only [sq1,sq0]
 refine' tk 5 (.int .i64 (a.digits.size:Int)) rfl rfl (.inl ⟨by rfl,fun u hu=>(by go_simp)⟩) hHeld ?_
 simp only [sq1,sq0]
 refine' tk 6 (.int .i64 ((ka:Nat):Int)) rfl rfl (.inl ⟨by rfl,fun u hu=>(by go_simp;all_goals first | omega | (rw [IntKind.wrap_i64];omega))⟩) hHeld ?_
 simp only [sq1,sq0]
 refine' tk 9 (.pointer (some ⟨(w.heap.size+1),1,none⟩)) rfl rfl (.inl ⟨by rfl,fun u hu=>(by go_simp)⟩) hHeld ?_
 simp only [sq1,sq0]
 refine' tk 10 (.string b.digits) rfl rfl (.inl ⟨by rfl,fun u hu=>(by have hc:=(RB.out.then hu).cell (j:=1) (v:=.string b.digits) rfl;go_simp)⟩) hHeld ?_
 simp only [sq1,sq0]
 refine' tk 11 (.int .i64 (b.digits.size:Int)) rfl rfl (.inl ⟨by rfl,fun u hu=>(by go_simp)⟩) hHeld ?_
 simp only [sq1,sq0]
 refine' tk 12 (.pointer (some ⟨(w.heap.size+1),1,none⟩)) rfl rfl (.inl ⟨by rfl,fun u hu=>(by go_simp)⟩) hHeld ?_
 simp only [sq1,sq0]
 refine' tk 13 (.string b.digits) rfl rfl (.inl ⟨by rfl,fun u hu=>(by have hc:=(RB.out.then hu).cell (j:=1) (v:=.string b.digits) rfl;go_simp)⟩) hHeld ?_
 simp only [sq1,sq0]
 refine' tk 14 (.int .i64 (b.digits.size:Int)) rfl rfl (.inl ⟨by rfl,fun u hu=>(by go_simp)⟩) hHeld ?_
 simp only [sq1,sq0]
 refine' tk 15 (.int .i64 ((kb:Nat):Int)) rfl rfl (.inl ⟨by rfl,fun u hu=>(by go_simp;all_goals first | omega | (rw [IntKind.wrap_i64];omega))⟩) hHeld ?_
 simp only [sq1,sq0]
 refine rd1 7 rfl (fun K hK=>?_)
 rw [if_pos (by rfl)]
 go_simp
 refine (noughts_ex ka _ (by omega)).mono ?_
 rintro e u7 ⟨rfl,hbC⟩
 refine hK.out _ _ (hHeld.trans (hbC.mono hHeld.size)) (fun hHeldx=>?_)
 clear hK K hbC hHeld
 have hHeld:=hHeldx
 clear hHeldx
 refine' tk 8 (.string (a.digits++zerosS ka)) rfl rfl (.inl ⟨by rfl,fun u hu=>(by go_simp;all_goals omega)⟩) hHeld ?_
 simp only [sq1,sq0]
 refine rd1 16 rfl (fun K hK=>?_)
 rw [if_pos (by rfl)]
 go_simp
 refine (noughts_ex kb _ (by omega)).mono ?_
 rintro e u16 ⟨rfl,hbC⟩
 refine hK.out _ _ (hHeld.trans (hbC.mono hHeld.size)) (fun hHeldx=>?_)
 clear hK K hbC hHeld
 have hHeld:=hHeldx
 clear hHeldx
 refine' tk 17 (.string (b.digits++zerosS kb)) rfl rfl (.inl ⟨by rfl,fun u hu=>(by go_simp;all_goals omega)⟩) hHeld ?_
 simp only [sq1,sq0]
 refine rd1 18 rfl (fun K hK=>?_)
 rw [if_pos (by rfl)]
 go_simp
 refine (cmp01_r _ _ _).mono ?_
 rintro e u18 ⟨rfl,rfl⟩
 rw [← HR.out]
 refine hK.out _ _ hHeld (fun hHeldx=>?_)
 clear hK K hHeldx
 refine' tk 19 (.int .i64 r) rfl rfl (.inl ⟨by rfl,fun u hu=>(by go_simp)⟩) hHeld ?_
 simp only [sq1,sq0]
 refine wpAnyH_done (by kernel_rfl) ?_ _
 go_wp2_with fail
 go_ret
 exact ⟨rfl,HBW.out.trans (hHeld.mono HBW.out.size)⟩
end Go.Proofs.YtagkjofpncpcpaaGreatDoor

/- datakitref02.size, datakitref02.Cmp. -/
namespace Go.Proofs.YtagkjofpncpcpaaGreatDoor
open Go.RowKit
theorem dsize_r (a b:DecD) (w:World) (ha:VDec a) (hb:VDec b) :
 Calls Tryz.prog 90 #[.agg #[.bool a.neg,.string a.digits,.int .i64 a.exp],.agg #[.bool b.neg,.string b.digits,.int .i64 b.exp]] w (CmpE (magC a b) w):=by
 by_cases h0:a.digits.size=0
 ·exact size02_0a a b w h0
 ·by_cases h1:b.digits.size=0
  ·exact size02_0b a b w h1 (by omega)
  ·rcases Int.lt_trichotomy ((a.digits.size:Int)+a.exp) (b.digits.size+b.exp) with h | h | h
   ·exact size02_lt a b w ha hb (by omega) (by omega) h
   ·by_cases hs:b.digits.size≤a.digits.size
    ·exact size02_eqA a b w ha hb (by omega) (by omega) h hs
    ·exact size02_eqB a b w ha hb (by omega) (by omega) h (by omega)
   ·exact size02_gt a b w ha hb (by omega) (by omega) h
set_option maxRecDepth 100000 in
set_option maxHeartbeats 1600000 in
theorem deccmp_r (a b:DecD) (w:World) (ha:VDec a) (hb:VDec b) :
 Calls Tryz.prog 27 #[.agg #[.bool a.neg,.string a.digits,.int .i64 a.exp],.agg #[.bool b.neg,.string b.digits,.int .i64 b.exp]] w (CmpE (decC a b) w):=by
 obtain ⟨na,da,ea⟩:=a
 obtain ⟨nb,db,eb⟩:=b
 have HVA:=Hd ha
 have HVB:=Hd hb
 clear ha hb
 have D1:=Hd (fun w=>dsize_r ⟨na,da,ea⟩ ⟨nb,db,eb⟩ w HVA.out HVB.out)
 have D2:=Hd (fun w=>dsize_r ⟨nb,db,eb⟩ ⟨na,da,ea⟩ w HVB.out HVA.out)
 obtain ⟨r,hr⟩:∃ r,r=decC ⟨na,da,ea⟩ ⟨nb,db,eb⟩:=⟨_,rfl⟩
 rw [← hr]
 have HR:=Hd hr
 clear hr HVA HVB
 have HB:=Hd (show Below w.heap.size w ((w.alloc (.cells #[.bool na,.string da,.int .i64 ea] 24)).alloc (.cells #[.bool nb,.string db,.int .i64 eb] 24)) from belowThen (belowBox w _) (belowBox _ _))
 dsimp only
 cases na<;>cases nb
 ·go_enter Tryz.func27,Tryz.ntmps27
  go_wp2_with fail
  refine (D1.out _).mono ?_
  rintro e w1 ⟨rfl,hb⟩
  have HB1:=Hd (belowThen HB.out hb)
  clear hb
  rw [show magC ⟨false,da,ea⟩ ⟨false,db,eb⟩=r from HR.out.symm]
  go_wp2_with fail
  go_ret
  exact ⟨rfl,HB1.out⟩
 ·go_enter Tryz.func27,Tryz.ntmps27
  go_wp2_with fail
  go_ret
  exact ⟨by rw [HR.out];rfl,HB.out⟩
 ·go_enter Tryz.func27,Tryz.ntmps27
  go_wp2_with fail
  go_ret
  exact ⟨by rw [HR.out];rfl,HB.out⟩
 ·go_enter Tryz.func27,Tryz.ntmps27
  go_wp2_with fail
  refine (D2.out _).mono ?_
  rintro e w1 ⟨rfl,hb⟩
  have HB1:=Hd (belowThen HB.out hb)
  clear hb
  rw [show magC ⟨true,db,eb⟩ ⟨true,da,ea⟩=r from HR.out.symm]
  go_wp2_with fail
  go_ret
  exact ⟨rfl,HB1.out⟩
end Go.Proofs.YtagkjofpncpcpaaGreatDoor

/- value.compare with the comparisons that value.order hands to it. -/
namespace Go.Proofs.YtagkjofpncpcpaaGreatDoor
open Go.RowKit
theorem drewB (w:World) {B:Nat}:Below B w w.drew:=⟨rfl,rfl,rfl,Nat.le_refl _,fun _ _=>rfl⟩
theorem BytesAt.small {w:World} {B:Nat} {l:List Int} {a:Option Addr} (h:BytesAt w B l a):∀ x∈l,0≤x∧x≤255:=by
 rcases h with rfl | ⟨_,_,_,_,_,h⟩
 ·intro x hx;cases hx
 ·exact h
structure Duo (w W:World) (cs ds:List Value):Prop where
 below:Below w.heap.size w W
 one:CellsAt W w.heap.size 0 cs
 two:CellsAt W (w.heap.size+1) 0 ds
 size:w.heap.size+2≤W.heap.size
theorem Duo.later {w W W':World} {cs ds:List Value} (h:Duo w W cs ds) (hb:Below W.heap.size W W'):Duo w W' cs ds :=
 ⟨belowThen h.below hb,h.one.below hb (by have:=h.size;omega),h.two.below hb (by have:=h.size;omega),Nat.le_trans h.size hb.size⟩
theorem duo_boxes (w:World) (cs ds:List Value) (t:TypeId):Duo w ((w.alloc (.cells cs.toArray t)).alloc (.cells ds.toArray t)) cs ds:=by
 have hs1:(w.alloc (.cells cs.toArray t)).heap.size=w.heap.size+1:=by rw [World.size_alloc]
 have hs2:((w.alloc (.cells cs.toArray t)).alloc (.cells ds.toArray t)).heap.size=w.heap.size+2:=by rw [World.size_alloc,World.size_alloc]
 refine ⟨belowThen (belowBox w _) (belowBox _ _),(box_at w cs t).then (belowBox _ _) (by omega),?_,by omega⟩
 have:=box_at (w.alloc (.cells cs.toArray t)) ds t
 rw [hs1] at this
 exact this
def keyF (x y:ByteArray×ValD):Int:=cmpS x.1 y.1
def valF (m:Nat) (x y:ByteArray×ValD):Int:=cmpD m x.2 y.2
theorem lisC_map {α β:Type} (f:β→β→Int) (g:α→β):∀ (l m:List α),lisC f (l.map g) (m.map g)=lisC (fun x y=>f (g x) (g y)) l m
 | [],[]=>rfl
 | [],y::s=>by simp [lisC]
 | x::r,[]=>by simp [lisC]
 | x::r,y::s=>by
   have ih:=lisC_map f g r s
   simp only [List.map_cons,lisC]
   rw [ih]
theorem mapC_rows (m:Nat) (a b:List (ByteArray×ValD)):mapC (cmpD m) a b=if lisC keyF (sortF a) (sortF b)=0 then lisC (valF m) (sortF a) (sortF b) else lisC keyF (sortF a) (sortF b):=by
 unfold mapC keysF valsF
 rw [lisC_map,lisC_map]
 rfl
def OrdP (m:Nat):Prop:=∀ (v u:ValD) (w:World) (B N:Nat) (cs ds:List Value) (left:Int),(m:Int)≤left→left≤65536→okC m v→okC m u→N≤4294967296→B≤w.heap.size→ValD.At w B N v cs→ValD.At w B N u ds →
 Calls Tryz.prog 148 #[.agg cs.toArray,.agg ds.toArray,.int .i64 left] w (CmpE (cmpD m v u) w)
set_option maxRecDepth 100000 in
theorem ord1 {m:Nat} (IH:OrdP m) (v u:ValD) (w:World) (B N pb:Nat) (cs ds:List Value) (left:Int) (hm:(m:Int)+1≤left) (hleft:left≤65536) (h1:okC m v) (h2:okC m u) (hN:N≤4294967296) (hB:B≤w.heap.size)
 (hv:ValD.At w B N v cs) (hu:ValD.At w B N u ds) (hc:CellI w pb left) :
 Calls Tryz.prog 213 #[.agg cs.toArray,.agg ds.toArray,.pointer (some ⟨pb,0,none⟩)] w (CmpE (cmpD m v u) w):=by
 have D0:=Hd (duo_boxes w cs ds 30)
 have hl1:=Hd (show (Tryz.prog.info? 30).map (·.size)=some cs.length by rw [hv.len];exact sizeV)
 have hl2:=Hd (show (Tryz.prog.info? 30).map (·.size)=some ds.length by rw [hu.len];exact sizeV)
 have cI:=(hc.below D0.out.below).cell
 have HR:=Hd (IH v u _ B N cs ds (left-1) (by omega) (by omega) h1 h2 hN (Nat.le_trans hB D0.out.below.size) (hv.below (D0.out.below.mono hB)) (hu.below (D0.out.below.mono hB)))
 clear hv hu hc IH h1 h2
 go_enter Tryz.func213,Tryz.ntmps213
 go_wp2_with (first
  | ((with_reducible show wpList _ _ _ (⟨some 6,_,_,_,_,_⟩::_) _ _);refine wpList_load_mid rfl 30 _ rfl w.heap.size 0 rfl cs _ D0.out.one.range Tryz.underlying30 rfl hl1.out ?_)
  | ((with_reducible show wpList _ _ _ (⟨some 7,_,_,_,_,_⟩::_) _ _);refine wpList_load_mid rfl 30 _ rfl (w.heap.size+1) 0 rfl ds _ D0.out.two.range Tryz.underlying30 rfl hl2.out ?_))
 refine HR.out.mono ?_
 rintro e w1 ⟨rfl,hb⟩
 have HB1:=Hd (belowThen D0.out.below hb)
 clear hb
 go_wp2_with fail
 go_ret
 exact ⟨rfl,HB1.out⟩
set_option maxRecDepth 100000 in
theorem ord3 {m:Nat} (IH:OrdP m) (v u:ValD) (w:World) (B N pb:Nat) (cs ds xs ys:List Value) (k1 k2:ByteArray) (left:Int) (hcs:cs=.string k1::xs) (hds:ds=.string k2::ys) (hm:(m:Int)+1≤left) (hleft:left≤65536) (h1:okC m v) (h2:okC m u) (hN:N≤4294967296) (hB:B≤w.heap.size)
 (hv:ValD.At w B N v xs) (hu:ValD.At w B N u ys) (hc:CellI w pb left) :
 Calls Tryz.prog 216 #[.agg cs.toArray,.agg ds.toArray,.pointer (some ⟨pb,0,none⟩)] w (CmpE (cmpD m v u) w):=by
 have D0:=Hd (duo_boxes w cs ds 41)
 have hl1:=Hd (show (Tryz.prog.info? 30).map (·.size)=some xs.length by rw [hv.len];exact sizeV)
 have hl2:=Hd (show (Tryz.prog.info? 30).map (·.size)=some ys.length by rw [hu.len];exact sizeV)
 have cI:=(hc.below D0.out.below).cell
 have R1:=Hd (show CellsAt ((w.alloc (.cells cs.toArray 41)).alloc (.cells ds.toArray 41)) w.heap.size 1 xs from by have:=D0.out.one;rw [hcs] at this ⊢;exact this.tail)
 have R2:=Hd (show CellsAt ((w.alloc (.cells cs.toArray 41)).alloc (.cells ds.toArray 41)) (w.heap.size+1) 1 ys from by have:=D0.out.two;rw [hds] at this ⊢;exact this.tail)
 have HR:=Hd (IH v u _ B N xs ys (left-1) (by omega) (by omega) h1 h2 hN (Nat.le_trans hB D0.out.below.size) (hv.below (D0.out.below.mono hB)) (hu.below (D0.out.below.mono hB)))
 clear hv hu hc IH h1 h2 hcs hds
 go_enter Tryz.func216,Tryz.ntmps216
 go_wp2_with (first
  | ((with_reducible show wpList _ _ _ (⟨some 7,_,_,_,_,_⟩::_) _ _);refine wpList_load_mid rfl 30 _ rfl w.heap.size 1 rfl xs _ R1.out.range Tryz.underlying30 rfl hl1.out ?_)
  | ((with_reducible show wpList _ _ _ (⟨some 9,_,_,_,_,_⟩::_) _ _);refine wpList_load_mid rfl 30 _ rfl (w.heap.size+1) 1 rfl ys _ R2.out.range Tryz.underlying30 rfl hl2.out ?_))
 refine HR.out.mono ?_
 rintro e w1 ⟨rfl,hb⟩
 have HB1:=Hd (belowThen D0.out.below hb)
 clear hb
 go_wp2_with fail
 go_ret
 exact ⟨rfl,HB1.out⟩
theorem key2_ex (r s:List Value) (kr ks:ByteArray) (hr:r[0]?=some (.string kr)) (hs:s[0]?=some (.string ks)) (w:World) :
 Calls Tryz.prog 215 #[.agg r.toArray,.agg s.toArray] w (CmpE (cmpS kr ks) w):=by
 have D0:=Hd (duo_boxes w r s 41)
 have c1:=D0.out.one.get0 hr
 have c2:=D0.out.two.get0 hs
 clear hr hs
 go_enter Tryz.func215,Tryz.ntmps215
 go_wp2_with (go_at_call 186;refine (Tryz.strings_Compare _ _ _).mono ?_;rintro e w1 ⟨rfl,rfl⟩)
 go_ret
 exact ⟨by rw [← cmpB_S];rfl,D0.out.below⟩
set_option maxRecDepth 100000 in
set_option maxHeartbeats 3200000 in
theorem cmpv_p {m:Nat} (IH:OrdP m) (l1 l2:List ValD) (ya yb:Option Addr) (yc yd B N pb:Nat) (left:Int) (w:World) (hN:N≤4294967296) (hn1:l1.length≤N) (hB:B≤w.heap.size) (hm:(m:Int)+1≤left) (hleft:left≤65536) (ho1:∀ x∈l1,okC m x) (ho2:∀ x∈l2,okC m x) (hc:CellI w pb left) (ha:ValsAt w B N l1 ya) (hb:ValsAt w B N l2 yb) :
 Calls Tryz.prog 212 #[.slice ya l1.length yc,.slice yb l2.length yd,.func (.func 213) #[] #[.pointer (some ⟨pb,0,none⟩)]] w (CmpE (lisC (cmpD m) l1 l2) w):=by
 have HA:=Hd ha
 have HB0:=Hd hb
 obtain ⟨F,hF⟩:∃ F,F=((cmpD m)):=⟨_,rfl⟩
 rw [← hF]
 have HFF:=Hd hF
 have HI:=Hd IH
 have HO1:=Hd ho1
 have HO2:=Hd ho2
 have HC:=Hd hc
 clear IH ho1 ho2 hc
 clear ha hb hF
 go_enter Tryz.func212,Tryz.ntmps212
 go_wp2_with fail
 go_loopw [7] (fun x wr=>∃ k:Nat,x=.int .i64 k∧k≤l1.length∧k≤l2.length∧Hid (Below w.heap.size w wr)∧Hid (lisC F l1 l2=lisC F (l1.drop k) (l2.drop k))) (fun x _=>l1.length-(intOf x).toNat)
 case atStart=>exact ⟨0,rfl,Nat.zero_le _,Nat.zero_le _,Hd (Below.refl _ _),Hd rfl⟩
 case round =>
  obtain ⟨k,rfl,hkl,hkm,HB,HE⟩:=hrel
  by_cases h1:k<l1.length
  ·by_cases h2:k<l2.length
   ·have HD:=Hd (show lisC F l1 l2=if F l1[k] l2[k]=0 then lisC F (l1.drop (k+1)) (l2.drop (k+1)) else F l1[k] l2[k] by rw [HE.out,lisC_drop F h1 h2])
    obtain ⟨s,hs⟩:∃ s,s=F l1[k] l2[k]:=⟨_,rfl⟩
    rw [← hs] at HD
    rw [HFF.out] at hs
    obtain ⟨b0,o0,rfl,hb0,hg0⟩:=HA.out.get (by intro h;rw [h] at h1;simp at h1)
    obtain ⟨c0,hc0,hv0⟩:=hg0 k h1
    have C0:=Hd (show ∀ u:World,Below w.heap.size w u→u.rangeAt b0 (o0+k * 13) c0 from fun u hu=>(hc0.below (hu.mono hB) hb0).range)
    have hz0:=Hd (show (Tryz.prog.info? 30).map (·.size)=some c0.length by rw [hv0.len];exact sizeV)
    have V0:=Hd hv0
    clear hg0 hc0 hv0
    obtain ⟨b1,o1,rfl,hb1,hg1⟩:=HB0.out.get (by intro h;rw [h] at h2;simp at h2)
    obtain ⟨c1,hc1,hv1⟩:=hg1 k h2
    have C1:=Hd (show ∀ u:World,Below w.heap.size w u→u.rangeAt b1 (o1+k * 13) c1 from fun u hu=>(hc1.below (hu.mono hB) hb1).range)
    have hz1:=Hd (show (Tryz.prog.info? 30).map (·.size)=some c1.length by rw [hv1.len];exact sizeV)
    have V1:=Hd hv1
    clear hg1 hc1 hv1
    have HS:=Hd hs
    clear hs
    go_wp2_with fail
    refine wp_region_held_drew (S:=fun u=>Below w.heap.size w u) (by kernel_rfl) (HB.out.trans (drewB _)) (fun hHeld=>?_)
    refine' tk 0 (.func (.func 213) #[] #[.pointer (some ⟨pb,0,none⟩)]) rfl rfl (.inl ⟨by rfl,fun u hu=>(by go_simp)⟩) hHeld ?_
    simp only [sq1,sq0]
    refine' tk 1 (.slice (some ⟨b0,o0,none⟩) l1.length yc) rfl rfl (.inl ⟨by rfl,fun u hu=>(by go_simp)⟩) hHeld ?_
    simp only [sq1,sq0]
    refine' tk 2 (.int .i64 ((k:Nat):Int)) rfl rfl (.inl ⟨by rfl,fun u hu=>(by go_simp)⟩) hHeld ?_
    simp only [sq1,sq0]
    refine' tk 3 (.pointer (some ⟨b0,o0+k * 13,none⟩)) rfl rfl (.inl ⟨by rfl,fun u hu=>(by go_simp;all_goals first | omega | (rw [IntKind.wrap_i64];omega) | (rw [if_pos (by omega)];congr;all_goals omega))⟩) hHeld ?_
    simp only [sq1,sq0]
    refine' tk 4 (.agg c0.toArray) rfl rfl (yieldsIf_load_mid (by kernel_rfl) 30 _ rfl b0 (o0+k * 13) rfl c0 _ (fun u hu=>C0.out u hu) Tryz.underlying30 rfl hz0.out) hHeld ?_
    simp only [sq1,sq0]
    refine' tk 5 (.slice (some ⟨b1,o1,none⟩) l2.length yd) rfl rfl (.inl ⟨by rfl,fun u hu=>(by go_simp)⟩) hHeld ?_
    simp only [sq1,sq0]
    refine' tk 6 (.int .i64 ((k:Nat):Int)) rfl rfl (.inl ⟨by rfl,fun u hu=>(by go_simp)⟩) hHeld ?_
    simp only [sq1,sq0]
    refine' tk 7 (.pointer (some ⟨b1,o1+k * 13,none⟩)) rfl rfl (.inl ⟨by rfl,fun u hu=>(by go_simp;all_goals first | omega | (rw [IntKind.wrap_i64];omega) | (rw [if_pos (by omega)];congr;all_goals omega))⟩) hHeld ?_
    simp only [sq1,sq0]
    refine' tk 8 (.agg c1.toArray) rfl rfl (yieldsIf_load_mid (by kernel_rfl) 30 _ rfl b1 (o1+k * 13) rfl c1 _ (fun u hu=>C1.out u hu) Tryz.underlying30 rfl hz1.out) hHeld ?_
    simp only [sq1,sq0]
    refine rd1 9 rfl (fun K hK=>?_)
    rw [if_pos (by rfl)]
    go_simp
    refine (ord1 HI.out l1[k] l2[k] _ B N pb c0 c1 left hm hleft (HO1.out _ (List.getElem_mem h1)) (HO2.out _ (List.getElem_mem h2)) hN (Nat.le_trans hB hHeld.size) (V0.out.below (hHeld.mono hB)) (V1.out.below (hHeld.mono hB)) (HC.out.below hHeld)).mono ?_
    rintro e uC ⟨rfl,hbC⟩
    rw [← HS.out]
    refine hK.out _ _ (belowThen hHeld hbC) (fun hHeld1=>?_)
    clear hK K hbC hHeld
    refine rd1 10 rfl (fun K hK=>?_)
    rw [if_pos (by rfl)]
    go_simp
    refine hK.out _ _ hHeld1 (fun hHeldx=>?_)
    clear hK K hHeldx
    refine wpAnyH_done (by kernel_rfl) ?_ _
    have HB1:=Hd hHeld1
    clear hHeld1
    by_cases h3:s=0
    ·have h4:=Hd h3
     have h5:(s != 0)=false:=by simp [h3]
     clear h3
     go_wp2_with fail
     go_roundw
     case rel=>exact ⟨k+1,by go_num,by omega,by omega,HB1,Hd (by rw [HD.out,if_pos h4.out])⟩
     case measure=>simp [intOf];omega
    ·have h4:=Hd h3
     have h5:(s != 0)=true:=by simp [h3]
     clear h3
     go_wp2_with fail
     go_ret
     exact ⟨by rw [HD.out,if_neg h4.out];try rfl,HB1.out⟩
   ·have HD:=Hd (show lisC F l1 l2=sgn l1.length l2.length by rw [HE.out,lisC_end F hkl hkm (.inr (by omega))])
    obtain ⟨s,hs⟩:∃ s,s=sgn (l1.length:Int) l2.length:=⟨_,rfl⟩
    have HS:=Hd hs
    clear hs
    go_wp2_with (go_at_call 208;refine (cmp_i _ _ _).mono ?_;rintro e w1 ⟨rfl,rfl⟩;rw [← HS.out])
    go_ret
    exact ⟨by rw [HD.out,← HS.out];try rfl,HB.out⟩
  ·have HD:=Hd (show lisC F l1 l2=sgn l1.length l2.length by rw [HE.out,lisC_end F hkl hkm (.inl (by omega))])
   obtain ⟨s,hs⟩:∃ s,s=sgn (l1.length:Int) l2.length:=⟨_,rfl⟩
   have HS:=Hd hs
   clear hs
   go_wp2_with (go_at_call 208;refine (cmp_i _ _ _).mono ?_;rintro e w1 ⟨rfl,rfl⟩;rw [← HS.out])
   go_ret
   exact ⟨by rw [HD.out,← HS.out];try rfl,HB.out⟩
set_option maxRecDepth 100000 in
set_option maxHeartbeats 3200000 in
theorem cmpk_p (l1 l2:List (ByteArray×ValD)) (ya yb:Option Addr) (yc yd B N:Nat) (w:World) (hN:N≤4294967296) (hn1:l1.length≤N) (hB:B≤w.heap.size) (ha:FieldsAt w B N l1 ya) (hb:FieldsAt w B N l2 yb) :
 Calls Tryz.prog 214 #[.slice ya l1.length yc,.slice yb l2.length yd,.func (.func 215) #[] #[]] w (CmpE (lisC keyF l1 l2) w):=by
 have HA:=Hd ha
 have HB0:=Hd hb
 obtain ⟨F,hF⟩:∃ F,F=(keyF):=⟨_,rfl⟩
 rw [← hF]
 have HFF:=Hd hF
 clear ha hb hF
 go_enter Tryz.func214,Tryz.ntmps214
 go_wp2_with fail
 go_loopw [7] (fun x wr=>∃ k:Nat,x=.int .i64 k∧k≤l1.length∧k≤l2.length∧Hid (Below w.heap.size w wr)∧Hid (lisC F l1 l2=lisC F (l1.drop k) (l2.drop k))) (fun x _=>l1.length-(intOf x).toNat)
 case atStart=>exact ⟨0,rfl,Nat.zero_le _,Nat.zero_le _,Hd (Below.refl _ _),Hd rfl⟩
 case round =>
  obtain ⟨k,rfl,hkl,hkm,HB,HE⟩:=hrel
  by_cases h1:k<l1.length
  ·by_cases h2:k<l2.length
   ·have HD:=Hd (show lisC F l1 l2=if F l1[k] l2[k]=0 then lisC F (l1.drop (k+1)) (l2.drop (k+1)) else F l1[k] l2[k] by rw [HE.out,lisC_drop F h1 h2])
    obtain ⟨s,hs⟩:∃ s,s=F l1[k] l2[k]:=⟨_,rfl⟩
    rw [← hs] at HD
    rw [HFF.out] at hs
    obtain ⟨b0,o0,rfl,hb0,hg0⟩:=HA.out.get (by intro h;rw [h] at h1;simp at h1)
    obtain ⟨d0,_,hc0,hv0⟩:=hg0 k h1
    obtain ⟨c0,hd0⟩:∃ c,c=Value.string l1[k].1::d0:=⟨_,rfl⟩
    rw [← hd0] at hc0
    have D0:=Hd hd0
    have C0:=Hd (show ∀ u:World,Below w.heap.size w u→u.rangeAt b0 (o0+k * 14) c0 from fun u hu=>(hc0.below (hu.mono hB) hb0).range)
    have hz0:=Hd (sizeFLD14 (show c0.length=14 by rw [hd0,List.length_cons,hv0.len]))
    have V0:=Hd hv0
    clear hg0 hc0 hv0 hd0
    obtain ⟨b1,o1,rfl,hb1,hg1⟩:=HB0.out.get (by intro h;rw [h] at h2;simp at h2)
    obtain ⟨d1,_,hc1,hv1⟩:=hg1 k h2
    obtain ⟨c1,hd1⟩:∃ c,c=Value.string l2[k].1::d1:=⟨_,rfl⟩
    rw [← hd1] at hc1
    have D1:=Hd hd1
    have C1:=Hd (show ∀ u:World,Below w.heap.size w u→u.rangeAt b1 (o1+k * 14) c1 from fun u hu=>(hc1.below (hu.mono hB) hb1).range)
    have hz1:=Hd (sizeFLD14 (show c1.length=14 by rw [hd1,List.length_cons,hv1.len]))
    have V1:=Hd hv1
    clear hg1 hc1 hv1 hd1
    have HS:=Hd (show s=cmpS l1[k].1 l2[k].1 from hs)
    clear hs
    go_wp2_with fail
    refine wp_region_held_drew (S:=fun u=>Below w.heap.size w u) (by kernel_rfl) (HB.out.trans (drewB _)) (fun hHeld=>?_)
    refine' tk 0 (.func (.func 215) #[] #[]) rfl rfl (.inl ⟨by rfl,fun u hu=>(by go_simp)⟩) hHeld ?_
    simp only [sq1,sq0]
    refine' tk 1 (.slice (some ⟨b0,o0,none⟩) l1.length yc) rfl rfl (.inl ⟨by rfl,fun u hu=>(by go_simp)⟩) hHeld ?_
    simp only [sq1,sq0]
    refine' tk 2 (.int .i64 ((k:Nat):Int)) rfl rfl (.inl ⟨by rfl,fun u hu=>(by go_simp)⟩) hHeld ?_
    simp only [sq1,sq0]
    refine' tk 3 (.pointer (some ⟨b0,o0+k * 14,none⟩)) rfl rfl (.inl ⟨by rfl,fun u hu=>(by go_simp;all_goals first | omega | (rw [IntKind.wrap_i64];omega) | (rw [if_pos (by omega)];congr;all_goals omega))⟩) hHeld ?_
    simp only [sq1,sq0]
    refine' tk 4 (.agg c0.toArray) rfl rfl (yieldsIf_load_mid (by kernel_rfl) 41 _ rfl b0 (o0+k * 14) rfl c0 _ (fun u hu=>C0.out u hu) Tryz.underlying41 rfl hz0.out) hHeld ?_
    simp only [sq1,sq0]
    refine' tk 5 (.slice (some ⟨b1,o1,none⟩) l2.length yd) rfl rfl (.inl ⟨by rfl,fun u hu=>(by go_simp)⟩) hHeld ?_
    simp only [sq1,sq0]
    refine' tk 6 (.int .i64 ((k:Nat):Int)) rfl rfl (.inl ⟨by rfl,fun u hu=>(by go_simp)⟩) hHeld ?_
    simp only [sq1,sq0]
    refine' tk 7 (.pointer (some ⟨b1,o1+k * 14,none⟩)) rfl rfl (.inl ⟨by rfl,fun u hu=>(by go_simp;all_goals first | omega | (rw [IntKind.wrap_i64];omega) | (rw [if_pos (by omega)];congr;all_goals omega))⟩) hHeld ?_
    simp only [sq1,sq0]
    refine' tk 8 (.agg c1.toArray) rfl rfl (yieldsIf_load_mid (by kernel_rfl) 41 _ rfl b1 (o1+k * 14) rfl c1 _ (fun u hu=>C1.out u hu) Tryz.underlying41 rfl hz1.out) hHeld ?_
    simp only [sq1,sq0]
    refine rd1 9 rfl (fun K hK=>?_)
    rw [if_pos (by rfl)]
    go_simp
    refine (key2_ex c0 c1 l1[k].1 l2[k].1 (by rw [D0.out];rfl) (by rw [D1.out];rfl) _).mono ?_
    rintro e uC ⟨rfl,hbC⟩
    rw [← HS.out]
    refine hK.out _ _ (belowThen hHeld hbC) (fun hHeld1=>?_)
    clear hK K hbC hHeld
    refine rd1 10 rfl (fun K hK=>?_)
    rw [if_pos (by rfl)]
    go_simp
    refine hK.out _ _ hHeld1 (fun hHeldx=>?_)
    clear hK K hHeldx
    refine wpAnyH_done (by kernel_rfl) ?_ _
    have HB1:=Hd hHeld1
    clear hHeld1
    by_cases h3:s=0
    ·have h4:=Hd h3
     have h5:(s != 0)=false:=by simp [h3]
     clear h3
     go_wp2_with fail
     go_roundw
     case rel=>exact ⟨k+1,by go_num,by omega,by omega,HB1,Hd (by rw [HD.out,if_pos h4.out])⟩
     case measure=>simp [intOf];omega
    ·have h4:=Hd h3
     have h5:(s != 0)=true:=by simp [h3]
     clear h3
     go_wp2_with fail
     go_ret
     exact ⟨by rw [HD.out,if_neg h4.out];try rfl,HB1.out⟩
   ·have HD:=Hd (show lisC F l1 l2=sgn l1.length l2.length by rw [HE.out,lisC_end F hkl hkm (.inr (by omega))])
    obtain ⟨s,hs⟩:∃ s,s=sgn (l1.length:Int) l2.length:=⟨_,rfl⟩
    have HS:=Hd hs
    clear hs
    go_wp2_with (go_at_call 208;refine (cmp_i _ _ _).mono ?_;rintro e w1 ⟨rfl,rfl⟩;rw [← HS.out])
    go_ret
    exact ⟨by rw [HD.out,← HS.out];try rfl,HB.out⟩
  ·have HD:=Hd (show lisC F l1 l2=sgn l1.length l2.length by rw [HE.out,lisC_end F hkl hkm (.inl (by omega))])
   obtain ⟨s,hs⟩:∃ s,s=sgn (l1.length:Int) l2.length:=⟨_,rfl⟩
   have HS:=Hd hs
   clear hs
   go_wp2_with (go_at_call 208;refine (cmp_i _ _ _).mono ?_;rintro e w1 ⟨rfl,rfl⟩;rw [← HS.out])
   go_ret
   exact ⟨by rw [HD.out,← HS.out];try rfl,HB.out⟩
set_option maxRecDepth 100000 in
set_option maxHeartbeats 3200000 in
theorem cmpf_p {m:Nat} (IH:OrdP m) (l1 l2:List (ByteArray×ValD)) (ya yb:Option Addr) (yc yd B N pb:Nat) (left:Int) (w:World) (hN:N≤4294967296) (hn1:l1.length≤N) (hB:B≤w.heap.size) (hm:(m:Int)+1≤left) (hleft:left≤65536) (ho1:∀ x∈l1,okC m x.2) (ho2:∀ x∈l2,okC m x.2) (hc:CellI w pb left) (ha:FieldsAt w B N l1 ya) (hb:FieldsAt w B N l2 yb) :
 Calls Tryz.prog 214 #[.slice ya l1.length yc,.slice yb l2.length yd,.func (.func 216) #[] #[.pointer (some ⟨pb,0,none⟩)]] w (CmpE (lisC (valF m) l1 l2) w):=by
 have HA:=Hd ha
 have HB0:=Hd hb
 obtain ⟨F,hF⟩:∃ F,F=((valF m)):=⟨_,rfl⟩
 rw [← hF]
 have HFF:=Hd hF
 have HI:=Hd IH
 have HO1:=Hd ho1
 have HO2:=Hd ho2
 have HC:=Hd hc
 clear IH ho1 ho2 hc
 clear ha hb hF
 go_enter Tryz.func214,Tryz.ntmps214
 go_wp2_with fail
 go_loopw [7] (fun x wr=>∃ k:Nat,x=.int .i64 k∧k≤l1.length∧k≤l2.length∧Hid (Below w.heap.size w wr)∧Hid (lisC F l1 l2=lisC F (l1.drop k) (l2.drop k))) (fun x _=>l1.length-(intOf x).toNat)
 case atStart=>exact ⟨0,rfl,Nat.zero_le _,Nat.zero_le _,Hd (Below.refl _ _),Hd rfl⟩
 case round =>
  obtain ⟨k,rfl,hkl,hkm,HB,HE⟩:=hrel
  by_cases h1:k<l1.length
  ·by_cases h2:k<l2.length
   ·have HD:=Hd (show lisC F l1 l2=if F l1[k] l2[k]=0 then lisC F (l1.drop (k+1)) (l2.drop (k+1)) else F l1[k] l2[k] by rw [HE.out,lisC_drop F h1 h2])
    obtain ⟨s,hs⟩:∃ s,s=F l1[k] l2[k]:=⟨_,rfl⟩
    rw [← hs] at HD
    rw [HFF.out] at hs
    obtain ⟨b0,o0,rfl,hb0,hg0⟩:=HA.out.get (by intro h;rw [h] at h1;simp at h1)
    obtain ⟨d0,_,hc0,hv0⟩:=hg0 k h1
    obtain ⟨c0,hd0⟩:∃ c,c=Value.string l1[k].1::d0:=⟨_,rfl⟩
    rw [← hd0] at hc0
    have D0:=Hd hd0
    have C0:=Hd (show ∀ u:World,Below w.heap.size w u→u.rangeAt b0 (o0+k * 14) c0 from fun u hu=>(hc0.below (hu.mono hB) hb0).range)
    have hz0:=Hd (sizeFLD14 (show c0.length=14 by rw [hd0,List.length_cons,hv0.len]))
    have V0:=Hd hv0
    clear hg0 hc0 hv0 hd0
    obtain ⟨b1,o1,rfl,hb1,hg1⟩:=HB0.out.get (by intro h;rw [h] at h2;simp at h2)
    obtain ⟨d1,_,hc1,hv1⟩:=hg1 k h2
    obtain ⟨c1,hd1⟩:∃ c,c=Value.string l2[k].1::d1:=⟨_,rfl⟩
    rw [← hd1] at hc1
    have D1:=Hd hd1
    have C1:=Hd (show ∀ u:World,Below w.heap.size w u→u.rangeAt b1 (o1+k * 14) c1 from fun u hu=>(hc1.below (hu.mono hB) hb1).range)
    have hz1:=Hd (sizeFLD14 (show c1.length=14 by rw [hd1,List.length_cons,hv1.len]))
    have V1:=Hd hv1
    clear hg1 hc1 hv1 hd1
    have HS:=Hd (show s=cmpD m l1[k].2 l2[k].2 from hs)
    clear hs
    go_wp2_with fail
    refine wp_region_held_drew (S:=fun u=>Below w.heap.size w u) (by kernel_rfl) (HB.out.trans (drewB _)) (fun hHeld=>?_)
    refine' tk 0 (.func (.func 216) #[] #[.pointer (some ⟨pb,0,none⟩)]) rfl rfl (.inl ⟨by rfl,fun u hu=>(by go_simp)⟩) hHeld ?_
    simp only [sq1,sq0]
    refine' tk 1 (.slice (some ⟨b0,o0,none⟩) l1.length yc) rfl rfl (.inl ⟨by rfl,fun u hu=>(by go_simp)⟩) hHeld ?_
    simp only [sq1,sq0]
    refine' tk 2 (.int .i64 ((k:Nat):Int)) rfl rfl (.inl ⟨by rfl,fun u hu=>(by go_simp)⟩) hHeld ?_
    simp only [sq1,sq0]
    refine' tk 3 (.pointer (some ⟨b0,o0+k * 14,none⟩)) rfl rfl (.inl ⟨by rfl,fun u hu=>(by go_simp;all_goals first | omega | (rw [IntKind.wrap_i64];omega) | (rw [if_pos (by omega)];congr;all_goals omega))⟩) hHeld ?_
    simp only [sq1,sq0]
    refine' tk 4 (.agg c0.toArray) rfl rfl (yieldsIf_load_mid (by kernel_rfl) 41 _ rfl b0 (o0+k * 14) rfl c0 _ (fun u hu=>C0.out u hu) Tryz.underlying41 rfl hz0.out) hHeld ?_
    simp only [sq1,sq0]
    refine' tk 5 (.slice (some ⟨b1,o1,none⟩) l2.length yd) rfl rfl (.inl ⟨by rfl,fun u hu=>(by go_simp)⟩) hHeld ?_
    simp only [sq1,sq0]
    refine' tk 6 (.int .i64 ((k:Nat):Int)) rfl rfl (.inl ⟨by rfl,fun u hu=>(by go_simp)⟩) hHeld ?_
    simp only [sq1,sq0]
    refine' tk 7 (.pointer (some ⟨b1,o1+k * 14,none⟩)) rfl rfl (.inl ⟨by rfl,fun u hu=>(by go_simp;all_goals first | omega | (rw [IntKind.wrap_i64];omega) | (rw [if_pos (by omega)];congr;all_goals omega))⟩) hHeld ?_
    simp only [sq1,sq0]
    refine' tk 8 (.agg c1.toArray) rfl rfl (yieldsIf_load_mid (by kernel_rfl) 41 _ rfl b1 (o1+k * 14) rfl c1 _ (fun u hu=>C1.out u hu) Tryz.underlying41 rfl hz1.out) hHeld ?_
    simp only [sq1,sq0]
    refine rd1 9 rfl (fun K hK=>?_)
    rw [if_pos (by rfl)]
    go_simp
    refine (ord3 HI.out l1[k].2 l2[k].2 _ B N pb c0 c1 d0 d1 _ _ left D0.out D1.out hm hleft (HO1.out _ (List.getElem_mem h1)) (HO2.out _ (List.getElem_mem h2)) hN (Nat.le_trans hB hHeld.size) (V0.out.below (hHeld.mono hB)) (V1.out.below (hHeld.mono hB)) (HC.out.below hHeld)).mono ?_
    rintro e uC ⟨rfl,hbC⟩
    rw [← HS.out]
    refine hK.out _ _ (belowThen hHeld hbC) (fun hHeld1=>?_)
    clear hK K hbC hHeld
    refine rd1 10 rfl (fun K hK=>?_)
    rw [if_pos (by rfl)]
    go_simp
    refine hK.out _ _ hHeld1 (fun hHeldx=>?_)
    clear hK K hHeldx
    refine wpAnyH_done (by kernel_rfl) ?_ _
    have HB1:=Hd hHeld1
    clear hHeld1
    by_cases h3:s=0
    ·have h4:=Hd h3
     have h5:(s != 0)=false:=by simp [h3]
     clear h3
     go_wp2_with fail
     go_roundw
     case rel=>exact ⟨k+1,by go_num,by omega,by omega,HB1,Hd (by rw [HD.out,if_pos h4.out])⟩
     case measure=>simp [intOf];omega
    ·have h4:=Hd h3
     have h5:(s != 0)=true:=by simp [h3]
     clear h3
     go_wp2_with fail
     go_ret
     exact ⟨by rw [HD.out,if_neg h4.out];try rfl,HB1.out⟩
   ·have HD:=Hd (show lisC F l1 l2=sgn l1.length l2.length by rw [HE.out,lisC_end F hkl hkm (.inr (by omega))])
    obtain ⟨s,hs⟩:∃ s,s=sgn (l1.length:Int) l2.length:=⟨_,rfl⟩
    have HS:=Hd hs
    clear hs
    go_wp2_with (go_at_call 208;refine (cmp_i _ _ _).mono ?_;rintro e w1 ⟨rfl,rfl⟩;rw [← HS.out])
    go_ret
    exact ⟨by rw [HD.out,← HS.out];try rfl,HB.out⟩
  ·have HD:=Hd (show lisC F l1 l2=sgn l1.length l2.length by rw [HE.out,lisC_end F hkl hkm (.inl (by omega))])
   obtain ⟨s,hs⟩:∃ s,s=sgn (l1.length:Int) l2.length:=⟨_,rfl⟩
   have HS:=Hd hs
   clear hs
   go_wp2_with (go_at_call 208;refine (cmp_i _ _ _).mono ?_;rintro e w1 ⟨rfl,rfl⟩;rw [← HS.out])
   go_ret
   exact ⟨by rw [HD.out,← HS.out];try rfl,HB.out⟩
end Go.Proofs.YtagkjofpncpcpaaGreatDoor
