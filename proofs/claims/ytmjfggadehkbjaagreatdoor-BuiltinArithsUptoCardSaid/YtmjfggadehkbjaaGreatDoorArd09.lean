/- datakitref07.Same: heads or lengths that differ. -/
import Derived.Test.YtmjfggadehkbjaaGreatDoorProg
import Derived.Test.YtmjfggadehkbjaaGreatDoorGA
import Derived.Test.YtmjfggadehkbjaaGreatDoorGB
import Derived.Test.YtmjfggadehkbjaaGreatDoorHN
import Derived.Test.YtmjfggadehkbjaaGreatDoorXD
import Derived.Test.YtmjfggadehkbjaaGreatDoorXI
import Derived.Test.YtmjfggadehkbjaaGreatDoorAJ
import Derived.Test.YtmjfggadehkbjaaGreatDoorSam07
namespace Go.Proofs.YtmjfggadehkbjaaGreatDoor
open Go.RowKit Stb
theorem bytes_str {l m:List Int} (h1:∀ x∈l,0≤x∧x≤255) (h2:∀ x∈m,0≤x∧x≤255):((strOfNums l).toList==(strOfNums m).toList)=(l==m):=by
 rw [ByteArray.toList_eq,ByteArray.toList_eq]
 apply Bool.eq_iff_iff.2
 rw [beq_iff_eq,beq_iff_eq]
 exact ⟨fun h=>by rw [← ints_nums h1,← ints_nums h2,h],fun h=>by rw [h]⟩
set_option maxRecDepth 100000 in
set_option maxHeartbeats 3200000 in
theorem smr_no0 (v u:ValD) (w:World) (B N:Nat) (cs ds:List Value) (hB:B≤w.heap.size) (hv:ValD.At w B N v cs) (hu:ValD.At w B N u ds) (b0:(v.kind==u.kind)=false) :
 Calls Tryz.prog 22 #[.agg cs.toArray,.agg ds.toArray] w (YnR false w):=by
 obtain ⟨ya,la,va,yc,lc,vc,hh⟩:=hv.has
 obtain ⟨yb,lb,vb,yd,ld,vd,hg⟩:=hu.has
 have D0:=Hd (duo_boxes w cs ds 30)
 have ekind:=D0.out.one.get0 hh.kind
 have fkind:=D0.out.two.get0 hg.kind
 have ebool:=D0.out.one.get0 hh.bool
 have fbool:=D0.out.two.get0 hg.bool
 have eneg:=D0.out.one.get0 hh.neg
 have fneg:=D0.out.two.get0 hg.neg
 have edigits:=D0.out.one.get0 hh.digits
 have fdigits:=D0.out.two.get0 hg.digits
 have eexp:=D0.out.one.get0 hh.exp
 have fexp:=D0.out.two.get0 hg.exp
 have etkind:=D0.out.one.get0 hh.tkind
 have ftkind:=D0.out.two.get0 hg.tkind
 have eday:=D0.out.one.get0 hh.day
 have fday:=D0.out.two.get0 hg.day
 have enano:=D0.out.one.get0 hh.nano
 have fnano:=D0.out.two.get0 hg.nano
 have eoffset:=D0.out.one.get0 hh.offset
 have foffset:=D0.out.two.get0 hg.offset
 have etext:=D0.out.one.get0 hh.text
 have ftext:=D0.out.two.get0 hg.text
 have ebytes:=D0.out.one.get0 hh.bytes
 have fbytes:=D0.out.two.get0 hg.bytes
 have elist:=D0.out.one.get0 hh.list
 have flist:=D0.out.two.get0 hg.list
 have efields:=D0.out.one.get0 hh.fields
 have ffields:=D0.out.two.get0 hg.fields
 have z0:(v.kind != u.kind)=true:=by have:=b0;revert this;unfold bne;intro h;rw [h];rfl
 have E1:=eqDEC v.num u.num
 have E2:=eqTIME v.time u.time
 have G1:=guardDEC
 have G2:=guardTIME
 have hq:=And.intro hB hB;clear hq
 clear hh hg hv hu b0
 go_enter Tryz.func22,Tryz.ntmps22
 go_wp2_with fail
 go_ret
 exact yn_ret rfl D0.out.below
set_option maxRecDepth 100000 in
set_option maxHeartbeats 3200000 in
theorem smr_no1 (v u:ValD) (w:World) (B N:Nat) (cs ds:List Value) (hB:B≤w.heap.size) (hv:ValD.At w B N v cs) (hu:ValD.At w B N u ds) (b0:(v.kind==u.kind)=true) (b1:(v.bool==u.bool)=false) :
 Calls Tryz.prog 22 #[.agg cs.toArray,.agg ds.toArray] w (YnR false w):=by
 obtain ⟨ya,la,va,yc,lc,vc,hh⟩:=hv.has
 obtain ⟨yb,lb,vb,yd,ld,vd,hg⟩:=hu.has
 have D0:=Hd (duo_boxes w cs ds 30)
 have ekind:=D0.out.one.get0 hh.kind
 have fkind:=D0.out.two.get0 hg.kind
 have ebool:=D0.out.one.get0 hh.bool
 have fbool:=D0.out.two.get0 hg.bool
 have eneg:=D0.out.one.get0 hh.neg
 have fneg:=D0.out.two.get0 hg.neg
 have edigits:=D0.out.one.get0 hh.digits
 have fdigits:=D0.out.two.get0 hg.digits
 have eexp:=D0.out.one.get0 hh.exp
 have fexp:=D0.out.two.get0 hg.exp
 have etkind:=D0.out.one.get0 hh.tkind
 have ftkind:=D0.out.two.get0 hg.tkind
 have eday:=D0.out.one.get0 hh.day
 have fday:=D0.out.two.get0 hg.day
 have enano:=D0.out.one.get0 hh.nano
 have fnano:=D0.out.two.get0 hg.nano
 have eoffset:=D0.out.one.get0 hh.offset
 have foffset:=D0.out.two.get0 hg.offset
 have etext:=D0.out.one.get0 hh.text
 have ftext:=D0.out.two.get0 hg.text
 have ebytes:=D0.out.one.get0 hh.bytes
 have fbytes:=D0.out.two.get0 hg.bytes
 have elist:=D0.out.one.get0 hh.list
 have flist:=D0.out.two.get0 hg.list
 have efields:=D0.out.one.get0 hh.fields
 have ffields:=D0.out.two.get0 hg.fields
 have z0:(v.kind != u.kind)=false:=by have:=b0;revert this;unfold bne;intro h;rw [h];rfl
 have E1:=eqDEC v.num u.num
 have E2:=eqTIME v.time u.time
 have G1:=guardDEC
 have G2:=guardTIME
 have hq:=And.intro hB hB;clear hq
 clear hh hg hv hu b0
 obtain ⟨p,hp⟩:∃ p,v.bool=p:=⟨_,rfl⟩
 obtain ⟨q,hq0⟩:∃ q,u.bool=q:=⟨_,rfl⟩
 rw [hp] at ebool b1
 rw [hq0] at fbool b1
 clear hp hq0
 rcases bool_ne2 b1 with ⟨rfl,rfl⟩ | ⟨rfl,rfl⟩
 all_goals
  clear b1
  go_enter Tryz.func22,Tryz.ntmps22
  go_wp2_with fail
  go_ret
  exact yn_ret rfl D0.out.below
set_option maxRecDepth 100000 in
set_option maxHeartbeats 3200000 in
theorem smr_no2 (v u:ValD) (w:World) (B N:Nat) (cs ds:List Value) (hB:B≤w.heap.size) (hv:ValD.At w B N v cs) (hu:ValD.At w B N u ds) (b0:(v.kind==u.kind)=true) (b1:(v.bool==u.bool)=true) (b2:decB v.num u.num=false) :
 Calls Tryz.prog 22 #[.agg cs.toArray,.agg ds.toArray] w (YnR false w):=by
 obtain ⟨ya,la,va,yc,lc,vc,hh⟩:=hv.has
 obtain ⟨yb,lb,vb,yd,ld,vd,hg⟩:=hu.has
 have D0:=Hd (duo_boxes w cs ds 30)
 have ekind:=D0.out.one.get0 hh.kind
 have fkind:=D0.out.two.get0 hg.kind
 have ebool:=D0.out.one.get0 hh.bool
 have fbool:=D0.out.two.get0 hg.bool
 have eneg:=D0.out.one.get0 hh.neg
 have fneg:=D0.out.two.get0 hg.neg
 have edigits:=D0.out.one.get0 hh.digits
 have fdigits:=D0.out.two.get0 hg.digits
 have eexp:=D0.out.one.get0 hh.exp
 have fexp:=D0.out.two.get0 hg.exp
 have etkind:=D0.out.one.get0 hh.tkind
 have ftkind:=D0.out.two.get0 hg.tkind
 have eday:=D0.out.one.get0 hh.day
 have fday:=D0.out.two.get0 hg.day
 have enano:=D0.out.one.get0 hh.nano
 have fnano:=D0.out.two.get0 hg.nano
 have eoffset:=D0.out.one.get0 hh.offset
 have foffset:=D0.out.two.get0 hg.offset
 have etext:=D0.out.one.get0 hh.text
 have ftext:=D0.out.two.get0 hg.text
 have ebytes:=D0.out.one.get0 hh.bytes
 have fbytes:=D0.out.two.get0 hg.bytes
 have elist:=D0.out.one.get0 hh.list
 have flist:=D0.out.two.get0 hg.list
 have efields:=D0.out.one.get0 hh.fields
 have ffields:=D0.out.two.get0 hg.fields
 have z0:(v.kind != u.kind)=false:=by have:=b0;revert this;unfold bne;intro h;rw [h];rfl
 have E1:=eqDEC v.num u.num
 have E2:=eqTIME v.time u.time
 have G1:=guardDEC
 have G2:=guardTIME
 rw [b2] at E1
 have hq:=And.intro hB hB;clear hq
 clear hh hg hv hu b0 b2
 obtain ⟨p,hp⟩:∃ p,v.bool=p:=⟨_,rfl⟩
 obtain ⟨q,hq0⟩:∃ q,u.bool=q:=⟨_,rfl⟩
 rw [hp] at ebool b1
 rw [hq0] at fbool b1
 clear hp hq0
 rcases bool_eq2 b1 with ⟨rfl,rfl⟩ | ⟨rfl,rfl⟩
 all_goals
  clear b1
  go_enter Tryz.func22,Tryz.ntmps22
  go_wp2_with fail
  go_ret
  exact yn_ret rfl D0.out.below
set_option maxRecDepth 100000 in
set_option maxHeartbeats 3200000 in
theorem smr_no3 (v u:ValD) (w:World) (B N:Nat) (cs ds:List Value) (hB:B≤w.heap.size) (hv:ValD.At w B N v cs) (hu:ValD.At w B N u ds) (b0:(v.kind==u.kind)=true) (b1:(v.bool==u.bool)=true) (b2:decB v.num u.num=true) (b3:timeB v.time u.time=false) :
 Calls Tryz.prog 22 #[.agg cs.toArray,.agg ds.toArray] w (YnR false w):=by
 obtain ⟨ya,la,va,yc,lc,vc,hh⟩:=hv.has
 obtain ⟨yb,lb,vb,yd,ld,vd,hg⟩:=hu.has
 have D0:=Hd (duo_boxes w cs ds 30)
 have ekind:=D0.out.one.get0 hh.kind
 have fkind:=D0.out.two.get0 hg.kind
 have ebool:=D0.out.one.get0 hh.bool
 have fbool:=D0.out.two.get0 hg.bool
 have eneg:=D0.out.one.get0 hh.neg
 have fneg:=D0.out.two.get0 hg.neg
 have edigits:=D0.out.one.get0 hh.digits
 have fdigits:=D0.out.two.get0 hg.digits
 have eexp:=D0.out.one.get0 hh.exp
 have fexp:=D0.out.two.get0 hg.exp
 have etkind:=D0.out.one.get0 hh.tkind
 have ftkind:=D0.out.two.get0 hg.tkind
 have eday:=D0.out.one.get0 hh.day
 have fday:=D0.out.two.get0 hg.day
 have enano:=D0.out.one.get0 hh.nano
 have fnano:=D0.out.two.get0 hg.nano
 have eoffset:=D0.out.one.get0 hh.offset
 have foffset:=D0.out.two.get0 hg.offset
 have etext:=D0.out.one.get0 hh.text
 have ftext:=D0.out.two.get0 hg.text
 have ebytes:=D0.out.one.get0 hh.bytes
 have fbytes:=D0.out.two.get0 hg.bytes
 have elist:=D0.out.one.get0 hh.list
 have flist:=D0.out.two.get0 hg.list
 have efields:=D0.out.one.get0 hh.fields
 have ffields:=D0.out.two.get0 hg.fields
 have z0:(v.kind != u.kind)=false:=by have:=b0;revert this;unfold bne;intro h;rw [h];rfl
 have E1:=eqDEC v.num u.num
 have E2:=eqTIME v.time u.time
 have G1:=guardDEC
 have G2:=guardTIME
 rw [b2] at E1
 rw [b3] at E2
 have hq:=And.intro hB hB;clear hq
 clear hh hg hv hu b0 b2 b3
 obtain ⟨p,hp⟩:∃ p,v.bool=p:=⟨_,rfl⟩
 obtain ⟨q,hq0⟩:∃ q,u.bool=q:=⟨_,rfl⟩
 rw [hp] at ebool b1
 rw [hq0] at fbool b1
 clear hp hq0
 rcases bool_eq2 b1 with ⟨rfl,rfl⟩ | ⟨rfl,rfl⟩
 all_goals
  clear b1
  go_enter Tryz.func22,Tryz.ntmps22
  go_wp2_with fail
  go_ret
  exact yn_ret rfl D0.out.below
set_option maxRecDepth 100000 in
set_option maxHeartbeats 3200000 in
theorem smr_no4 (v u:ValD) (w:World) (B N:Nat) (cs ds:List Value) (hB:B≤w.heap.size) (hv:ValD.At w B N v cs) (hu:ValD.At w B N u ds) (b0:(v.kind==u.kind)=true) (b1:(v.bool==u.bool)=true) (b2:decB v.num u.num=true) (b3:timeB v.time u.time=true) (b4:(v.text.toList==u.text.toList)=false) :
 Calls Tryz.prog 22 #[.agg cs.toArray,.agg ds.toArray] w (YnR false w):=by
 obtain ⟨ya,la,va,yc,lc,vc,hh⟩:=hv.has
 obtain ⟨yb,lb,vb,yd,ld,vd,hg⟩:=hu.has
 have D0:=Hd (duo_boxes w cs ds 30)
 have ekind:=D0.out.one.get0 hh.kind
 have fkind:=D0.out.two.get0 hg.kind
 have ebool:=D0.out.one.get0 hh.bool
 have fbool:=D0.out.two.get0 hg.bool
 have eneg:=D0.out.one.get0 hh.neg
 have fneg:=D0.out.two.get0 hg.neg
 have edigits:=D0.out.one.get0 hh.digits
 have fdigits:=D0.out.two.get0 hg.digits
 have eexp:=D0.out.one.get0 hh.exp
 have fexp:=D0.out.two.get0 hg.exp
 have etkind:=D0.out.one.get0 hh.tkind
 have ftkind:=D0.out.two.get0 hg.tkind
 have eday:=D0.out.one.get0 hh.day
 have fday:=D0.out.two.get0 hg.day
 have enano:=D0.out.one.get0 hh.nano
 have fnano:=D0.out.two.get0 hg.nano
 have eoffset:=D0.out.one.get0 hh.offset
 have foffset:=D0.out.two.get0 hg.offset
 have etext:=D0.out.one.get0 hh.text
 have ftext:=D0.out.two.get0 hg.text
 have ebytes:=D0.out.one.get0 hh.bytes
 have fbytes:=D0.out.two.get0 hg.bytes
 have elist:=D0.out.one.get0 hh.list
 have flist:=D0.out.two.get0 hg.list
 have efields:=D0.out.one.get0 hh.fields
 have ffields:=D0.out.two.get0 hg.fields
 have z0:(v.kind != u.kind)=false:=by have:=b0;revert this;unfold bne;intro h;rw [h];rfl
 have E1:=eqDEC v.num u.num
 have E2:=eqTIME v.time u.time
 have G1:=guardDEC
 have G2:=guardTIME
 rw [b2] at E1
 rw [b3] at E2
 have hq:=And.intro hB hB;clear hq
 clear hh hg hv hu b0 b2 b3
 obtain ⟨p,hp⟩:∃ p,v.bool=p:=⟨_,rfl⟩
 obtain ⟨q,hq0⟩:∃ q,u.bool=q:=⟨_,rfl⟩
 rw [hp] at ebool b1
 rw [hq0] at fbool b1
 clear hp hq0
 rcases bool_eq2 b1 with ⟨rfl,rfl⟩ | ⟨rfl,rfl⟩
 all_goals
  clear b1
  go_enter Tryz.func22,Tryz.ntmps22
  go_wp2_with fail
  go_ret
  exact yn_ret rfl D0.out.below
set_option maxRecDepth 100000 in
set_option maxHeartbeats 3200000 in
theorem smr_no5 (v u:ValD) (w:World) (B N:Nat) (cs ds:List Value) (hB:B≤w.heap.size) (hv:ValD.At w B N v cs) (hu:ValD.At w B N u ds) (b0:(v.kind==u.kind)=true) (b1:(v.bool==u.bool)=true) (b2:decB v.num u.num=true) (b3:timeB v.time u.time=true) (b4:(v.text.toList==u.text.toList)=true) (b5:(v.bytes==u.bytes)=false) :
 Calls Tryz.prog 22 #[.agg cs.toArray,.agg ds.toArray] w (YnR false w):=by
 obtain ⟨ya,la,va,yc,lc,vc,hh⟩:=hv.has
 obtain ⟨yb,lb,vb,yd,ld,vd,hg⟩:=hu.has
 have D0:=Hd (duo_boxes w cs ds 30)
 have ekind:=D0.out.one.get0 hh.kind
 have fkind:=D0.out.two.get0 hg.kind
 have ebool:=D0.out.one.get0 hh.bool
 have fbool:=D0.out.two.get0 hg.bool
 have eneg:=D0.out.one.get0 hh.neg
 have fneg:=D0.out.two.get0 hg.neg
 have edigits:=D0.out.one.get0 hh.digits
 have fdigits:=D0.out.two.get0 hg.digits
 have eexp:=D0.out.one.get0 hh.exp
 have fexp:=D0.out.two.get0 hg.exp
 have etkind:=D0.out.one.get0 hh.tkind
 have ftkind:=D0.out.two.get0 hg.tkind
 have eday:=D0.out.one.get0 hh.day
 have fday:=D0.out.two.get0 hg.day
 have enano:=D0.out.one.get0 hh.nano
 have fnano:=D0.out.two.get0 hg.nano
 have eoffset:=D0.out.one.get0 hh.offset
 have foffset:=D0.out.two.get0 hg.offset
 have etext:=D0.out.one.get0 hh.text
 have ftext:=D0.out.two.get0 hg.text
 have ebytes:=D0.out.one.get0 hh.bytes
 have fbytes:=D0.out.two.get0 hg.bytes
 have elist:=D0.out.one.get0 hh.list
 have flist:=D0.out.two.get0 hg.list
 have efields:=D0.out.one.get0 hh.fields
 have ffields:=D0.out.two.get0 hg.fields
 have z0:(v.kind != u.kind)=false:=by have:=b0;revert this;unfold bne;intro h;rw [h];rfl
 have E1:=eqDEC v.num u.num
 have E2:=eqTIME v.time u.time
 have G1:=guardDEC
 have G2:=guardTIME
 rw [b2] at E1
 rw [b3] at E2
 have Y1:=conv_bytes (hh.atBytes.below (D0.out.below.mono hB)) yc
 have Y2:=conv_bytes (hg.atBytes.below (D0.out.below.mono hB)) yd
 have y5:=bytes_str hh.atBytes.small hg.atBytes.small
 rw [b5] at y5
 clear hh hg hv hu b0 b2 b3 b5
 obtain ⟨p,hp⟩:∃ p,v.bool=p:=⟨_,rfl⟩
 obtain ⟨q,hq0⟩:∃ q,u.bool=q:=⟨_,rfl⟩
 rw [hp] at ebool b1
 rw [hq0] at fbool b1
 clear hp hq0
 rcases bool_eq2 b1 with ⟨rfl,rfl⟩ | ⟨rfl,rfl⟩
 all_goals
  clear b1
  go_enter Tryz.func22,Tryz.ntmps22
  go_wp2_with fail
  go_ret
  exact yn_ret rfl D0.out.below
set_option maxRecDepth 100000 in
set_option maxHeartbeats 3200000 in
theorem smr_no6 (v u:ValD) (w:World) (B N:Nat) (cs ds:List Value) (hB:B≤w.heap.size) (hv:ValD.At w B N v cs) (hu:ValD.At w B N u ds) (b0:(v.kind==u.kind)=true) (b1:(v.bool==u.bool)=true) (b2:decB v.num u.num=true) (b3:timeB v.time u.time=true) (b4:(v.text.toList==u.text.toList)=true) (b5:(v.bytes==u.bytes)=true) (b6:(v.list.length==u.list.length)=false) :
 Calls Tryz.prog 22 #[.agg cs.toArray,.agg ds.toArray] w (YnR false w):=by
 obtain ⟨ya,la,va,yc,lc,vc,hh⟩:=hv.has
 obtain ⟨yb,lb,vb,yd,ld,vd,hg⟩:=hu.has
 have D0:=Hd (duo_boxes w cs ds 30)
 have ekind:=D0.out.one.get0 hh.kind
 have fkind:=D0.out.two.get0 hg.kind
 have ebool:=D0.out.one.get0 hh.bool
 have fbool:=D0.out.two.get0 hg.bool
 have eneg:=D0.out.one.get0 hh.neg
 have fneg:=D0.out.two.get0 hg.neg
 have edigits:=D0.out.one.get0 hh.digits
 have fdigits:=D0.out.two.get0 hg.digits
 have eexp:=D0.out.one.get0 hh.exp
 have fexp:=D0.out.two.get0 hg.exp
 have etkind:=D0.out.one.get0 hh.tkind
 have ftkind:=D0.out.two.get0 hg.tkind
 have eday:=D0.out.one.get0 hh.day
 have fday:=D0.out.two.get0 hg.day
 have enano:=D0.out.one.get0 hh.nano
 have fnano:=D0.out.two.get0 hg.nano
 have eoffset:=D0.out.one.get0 hh.offset
 have foffset:=D0.out.two.get0 hg.offset
 have etext:=D0.out.one.get0 hh.text
 have ftext:=D0.out.two.get0 hg.text
 have ebytes:=D0.out.one.get0 hh.bytes
 have fbytes:=D0.out.two.get0 hg.bytes
 have elist:=D0.out.one.get0 hh.list
 have flist:=D0.out.two.get0 hg.list
 have efields:=D0.out.one.get0 hh.fields
 have ffields:=D0.out.two.get0 hg.fields
 have z0:(v.kind != u.kind)=false:=by have:=b0;revert this;unfold bne;intro h;rw [h];rfl
 have E1:=eqDEC v.num u.num
 have E2:=eqTIME v.time u.time
 have G1:=guardDEC
 have G2:=guardTIME
 rw [b2] at E1
 rw [b3] at E2
 have Y1:=conv_bytes (hh.atBytes.below (D0.out.below.mono hB)) yc
 have Y2:=conv_bytes (hg.atBytes.below (D0.out.below.mono hB)) yd
 have y5:=bytes_str hh.atBytes.small hg.atBytes.small
 rw [b5] at y5
 have z6:((v.list.length:Int) != (u.list.length:Int))=true:=by have:=b6;simp at this;simp;omega
 clear hh hg hv hu b0 b2 b3 b5 b6
 obtain ⟨p,hp⟩:∃ p,v.bool=p:=⟨_,rfl⟩
 obtain ⟨q,hq0⟩:∃ q,u.bool=q:=⟨_,rfl⟩
 rw [hp] at ebool b1
 rw [hq0] at fbool b1
 clear hp hq0
 rcases bool_eq2 b1 with ⟨rfl,rfl⟩ | ⟨rfl,rfl⟩
 all_goals
  clear b1
  go_enter Tryz.func22,Tryz.ntmps22
  go_wp2_with fail
  go_ret
  exact yn_ret rfl D0.out.below
set_option maxRecDepth 100000 in
set_option maxHeartbeats 3200000 in
theorem smr_no7 (v u:ValD) (w:World) (B N:Nat) (cs ds:List Value) (hB:B≤w.heap.size) (hv:ValD.At w B N v cs) (hu:ValD.At w B N u ds) (b0:(v.kind==u.kind)=true) (b1:(v.bool==u.bool)=true) (b2:decB v.num u.num=true) (b3:timeB v.time u.time=true) (b4:(v.text.toList==u.text.toList)=true) (b5:(v.bytes==u.bytes)=true) (b6:(v.list.length==u.list.length)=true) (b7:(v.fields.length==u.fields.length)=false) :
 Calls Tryz.prog 22 #[.agg cs.toArray,.agg ds.toArray] w (YnR false w):=by
 obtain ⟨ya,la,va,yc,lc,vc,hh⟩:=hv.has
 obtain ⟨yb,lb,vb,yd,ld,vd,hg⟩:=hu.has
 have D0:=Hd (duo_boxes w cs ds 30)
 have ekind:=D0.out.one.get0 hh.kind
 have fkind:=D0.out.two.get0 hg.kind
 have ebool:=D0.out.one.get0 hh.bool
 have fbool:=D0.out.two.get0 hg.bool
 have eneg:=D0.out.one.get0 hh.neg
 have fneg:=D0.out.two.get0 hg.neg
 have edigits:=D0.out.one.get0 hh.digits
 have fdigits:=D0.out.two.get0 hg.digits
 have eexp:=D0.out.one.get0 hh.exp
 have fexp:=D0.out.two.get0 hg.exp
 have etkind:=D0.out.one.get0 hh.tkind
 have ftkind:=D0.out.two.get0 hg.tkind
 have eday:=D0.out.one.get0 hh.day
 have fday:=D0.out.two.get0 hg.day
 have enano:=D0.out.one.get0 hh.nano
 have fnano:=D0.out.two.get0 hg.nano
 have eoffset:=D0.out.one.get0 hh.offset
 have foffset:=D0.out.two.get0 hg.offset
 have etext:=D0.out.one.get0 hh.text
 have ftext:=D0.out.two.get0 hg.text
 have ebytes:=D0.out.one.get0 hh.bytes
 have fbytes:=D0.out.two.get0 hg.bytes
 have elist:=D0.out.one.get0 hh.list
 have flist:=D0.out.two.get0 hg.list
 have efields:=D0.out.one.get0 hh.fields
 have ffields:=D0.out.two.get0 hg.fields
 have z0:(v.kind != u.kind)=false:=by have:=b0;revert this;unfold bne;intro h;rw [h];rfl
 have E1:=eqDEC v.num u.num
 have E2:=eqTIME v.time u.time
 have G1:=guardDEC
 have G2:=guardTIME
 rw [b2] at E1
 rw [b3] at E2
 have Y1:=conv_bytes (hh.atBytes.below (D0.out.below.mono hB)) yc
 have Y2:=conv_bytes (hg.atBytes.below (D0.out.below.mono hB)) yd
 have y5:=bytes_str hh.atBytes.small hg.atBytes.small
 rw [b5] at y5
 have z6:((v.list.length:Int) != (u.list.length:Int))=false:=by have:=b6;simp at this;simp;omega
 have z7:((v.fields.length:Int) != (u.fields.length:Int))=true:=by have:=b7;simp at this;simp;omega
 clear hh hg hv hu b0 b2 b3 b5 b6 b7
 obtain ⟨p,hp⟩:∃ p,v.bool=p:=⟨_,rfl⟩
 obtain ⟨q,hq0⟩:∃ q,u.bool=q:=⟨_,rfl⟩
 rw [hp] at ebool b1
 rw [hq0] at fbool b1
 clear hp hq0
 rcases bool_eq2 b1 with ⟨rfl,rfl⟩ | ⟨rfl,rfl⟩
 all_goals
  clear b1
  go_enter Tryz.func22,Tryz.ntmps22
  go_wp2_with fail
  go_ret
  exact yn_ret rfl D0.out.below
end Go.Proofs.YtmjfggadehkbjaaGreatDoor
