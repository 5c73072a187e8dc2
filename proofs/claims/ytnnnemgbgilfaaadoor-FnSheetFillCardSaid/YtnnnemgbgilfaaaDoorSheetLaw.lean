/- The plain laws of filling, trimming and what a key is. Conditions: none. -/
import Derived.Test.YtnnnemgbgilfaaaDoorSheetFillR
import Derived.Test.YtnnnemgbgilfaaaDoorSheetTrimR
import Derived.Test.YtnnnemgbgilfaaaDoorSheetGet2
set_option linter.unusedSimpArgs false
set_option linter.unusedVariables false
set_option linter.defProp false
open Bool renaming and_eq_true → yB
open List renaming getElem?_map → zm, length_map → zh
open Nat renaming zero_add → ze
open Option renaming map_some → yA
open Go Go.Ab
set_option maxHeartbeats 2000000
namespace Go.Proofs.YtnnnemgbgilfaaaDoor.W
theorem less_trans:∀ {a b c:List UInt8},Op.bytesLess a b=true→Op.bytesLess b c=true→Op.bytesLess a c=true
 | [],[],_,h,_=>by simp [Op.bytesLess] at h
 | [],_::_,[],_,h=>by simp [Op.bytesLess] at h
 | [],_::_,_::_,_,_=>by simp [Op.bytesLess]
 | _::_,[],_,h,_=>by simp [Op.bytesLess] at h
 | _::_,_::_,[],_,h=>by simp [Op.bytesLess] at h
 | x::a,y::b,z::c,h,k=>by
  simp only [Op.bytesLess] at h k ⊢
  have ih:=@less_trans a b c
  grind
theorem wless_trans:∀ {a b c:List (List UInt8)},wless a b=true→wless b c=true→wless a c=true
 | [],[],_,h,_=>by simp [wless] at h
 | [],_::_,[],_,h=>by simp [wless] at h
 | [],_::_,_::_,_,_=>by simp [wless]
 | _::_,[],_,h,_=>by simp [wless] at h
 | _::_,_::_,[],_,h=>by simp [wless] at h
 | x::a,y::b,z::c,h,k=>by
  have ih:=@wless_trans a b c
  have lt:=@less_trans x y z
  simp only [wless] at h k ⊢
  by_cases e1:x=y
  ·subst e1
   by_cases e2:x=z
   ·subst e2
    simp only [beq_self_eq_true,if_true] at h k ⊢
    exact ih h k
   ·have e2':(x == z)=false:=by simp [e2]
    simp only [beq_self_eq_true,if_true,e2',Bool.false_eq_true,if_false] at h k ⊢
    exact k
  ·have e1':(x == y)=false:=by simp [e1]
   simp only [e1',Bool.false_eq_true,if_false] at h
   by_cases e2:y=z
   ·subst e2
    simp only [e1',Bool.false_eq_true,if_false]
    exact h
   ·have e2':(y == z)=false:=by simp [e2]
    simp only [e2',Bool.false_eq_true,if_false] at k
    have hxz:=lt h k
    by_cases e3:x=z
    ·subst e3
     exfalso
     have:=less_irr x
     rw [this] at hxz; cases hxz
    ·have e3':(x == z)=false:=by simp [e3]
     simp only [e3',Bool.false_eq_true,if_false]
     exact hxz
theorem lineLess_trans {kind:List UInt8} {a b c:SheetLine} (h:lineLess kind a b=true) (k:lineLess kind b c=true):lineLess kind a c=true:=by
 simp only [lineLess,Bool.or_eq_true,decide_eq_true_eq,yB,beq_iff_eq] at h k ⊢
 rcases h with h | ⟨h1,h2⟩
 ·rcases k with k | ⟨k1,k2⟩
  ·exact .inl (by omega)
  ·exact .inl (by omega)
 ·rcases k with k | ⟨k1,k2⟩
  ·exact .inl (by omega)
  ·exact .inr ⟨by omega,wless_trans h2 k2⟩
theorem pw_step {α:Type} {R:α→α→Prop} (tr:∀ a b c,R a b→R b c→R a c):∀ {l:List α},(∀ k x y,l[k]?=some x→l[k+1]?=some y→R x y)→l.Pairwise R
 | [],_=>List.Pairwise.nil
 | a::l,h=>by
  have ih:=pw_step tr (l:=l) fun k x y h1 h2=>h (k+1) x y (by simpa using h1) (by simpa using h2)
  refine List.Pairwise.cons (fun y hy=>?_) ih
  cases l with
  | nil=>cases hy
  | cons b l =>
   have hab:=h 0 a b rfl rfl
   rcases List.mem_cons.1 hy with rfl | hy
   ·exact hab
   ·exact tr _ _ _ hab ((List.pairwise_cons.1 ih).1 y hy)
theorem cnt_take {ls:List SheetLine} {key:List UInt8} (k:Nat):cntK (ls.take k) key≤cntK ls key:=by
 conv=>rhs; rw [← List.take_append_drop k ls]
 simp only [cntK,List.countP_append]
 omega
theorem cntOk_le {m:Bool} {a b:Nat} (h:cntOk m b=true) (hab:a≤b):cntOk m a=true:=by
 cases m <;> simp [cntOk] at h ⊢ <;> omega
theorem lines_char (kind:List UInt8) (ls:List SheetLine):linesR kind ls=true↔(∀ x∈ls,fitsR kind x.Key x.Words=true∧cntOk (manyR kind x.Key) (cntK ls x.Key)=true)∧ls.Pairwise (fun a b=>lineLess kind a b=true):=by
 constructor
 ·intro h
  have at_:∀ {k:Nat} {y:SheetLine},ls[k]?=some y→lineP kind ls (y,k)=true:=fun hy=>List.all_eq_true.1 h _ (List.mem_of_getElem? (zip_at hy))
  refine ⟨fun x hx=>?_,pw_step (R:=fun a b=>lineLess kind a b=true) (fun a b c h k=>lineLess_trans h k) fun k x y hx hy=>?_⟩
  ·obtain ⟨i,hi,rfl⟩:=List.getElem_of_mem hx
   have h2:=at_ (List.getElem?_eq_getElem hi)
   simp only [lineP,yB] at h2
   refine ⟨h2.1.1,?_⟩
   -- the last line of this key
   have last:∀ n,n≤ls.length→cntK (ls.take n) (ls[i]).Key=0∨cntOk (manyR kind (ls[i]).Key) (cntK (ls.take n) (ls[i]).Key)=true:=by
    intro n
    induction n with
    | zero=>intro _; left; simp [cntK]
    | succ n ih =>
     intro hn
     obtain ⟨y,hy⟩:∃ y,ls[n]?=some y:=⟨ls[n],List.getElem?_eq_getElem (by omega)⟩
     by_cases he:(y.Key == (ls[i]).Key)=true
     ·right
      have h3:=at_ hy
      simp only [lineP,yB] at h3
      have he':y.Key=(ls[i]).Key:=by simpa using he
      have h4:=h3.2
      rw [he'] at h4
      exact h4
     ·rw [cntK_step hy,if_neg he,Nat.add_zero]
      exact ih (by omega)
   rcases last ls.length (Nat.le_refl _) with h3 | h3
   ·rw [List.take_length] at h3
    rw [h3]; cases manyR kind (ls[i]).Key <;> rfl
   ·rwa [List.take_length] at h3
  ·have h2:=at_ hy
   simp only [lineP,yB] at h2
   have h3:=h2.1.2
   rwa [prevL_some (y:=x) (by simpa using hx) (by omega)] at h3
 ·rintro ⟨h1,h2⟩
  refine List.all_eq_true.2 fun q hq=>?_
  obtain ⟨i,hi,rfl⟩:=List.getElem_of_mem hq
  have hi':i<ls.length:=by simpa using hi
  simp only [List.getElem_zipIdx,ze,lineP,yB]
  obtain ⟨h3,h4⟩:=h1 ls[i] (by simp)
  refine ⟨⟨h3,?_⟩,cntOk_le h4 (cnt_take _)⟩
  cases i with
  | zero=>rfl
  | succ i =>
   rw [prevL_some (y:=ls[i]) (by simp) (by omega)]
   exact List.pairwise_iff_getElem.1 h2 i (i+1) (by omega) hi' (by omega)
theorem cnt_of (ls:List SheetLine) (key:List UInt8):cntK ls key=(ofR key ls).length:=by
 rw [cntK,ofR,List.countP_eq_length_filter]
theorem rule_at {kind:List UInt8} {r:SheetRule} (h:r∈rulesR kind):ruleOf kind r.Key=some r∧manyR kind r.Key=r.Many:=by
 obtain ⟨i,hi,rfl⟩:=List.getElem_of_mem h
 have hr:=List.getElem?_eq_getElem hi
 have e:ruleOf kind (rulesR kind)[i].Key=some (rulesR kind)[i]:=by
  rcases rule_two kind (rulesR kind)[i].Key with ⟨h1,h2⟩ | ⟨j,x,h1,h2,h3⟩
  ·have:=ix_rule hr; omega
  ·have h4:=ix_rule hr
   have:j=i:=by omega
   subst this
   rw [h3,← h1,hr]
 refine ⟨e,?_⟩
 rw [manyR,e]
def stdOkR (kind:List UInt8) (r:SheetRule):Bool:=r.Many || fitsR kind r.Key r.Default
theorem std_fits {kind:List UInt8} {r:SheetRule} (h:r∈rulesR kind) (hm:r.Many=false):fitsR kind r.Key r.Default=true:=by
 have all:(rulesR kind).all (stdOkR kind)=true:=by
  by_cases hk:kindOk kind=true
  ·rcases rulesR_some hk with ⟨_,rfl⟩ | ⟨_,rfl⟩ | ⟨_,rfl⟩ <;> decide +kernel
  ·rw [rulesR_none (by simpa using hk)]; rfl
 have:=List.all_eq_true.1 all r h
 simpa [stdOkR,hm] using this
theorem of_flat {kind:List UInt8} {f:SheetRule→List SheetLine} (hf:∀ r∈rulesR kind,∀ x∈f r,x.Key=r.Key) {r:SheetRule} (h:r∈rulesR kind):ofR r.Key ((rulesR kind).flatMap f)=f r:=by
 obtain ⟨i,hi,rfl⟩:=List.getElem_of_mem h
 have hr:=List.getElem?_eq_getElem hi
 have hsp:=split_at hr
 have key:∀ (j:Nat) (t:SheetRule),(rulesR kind)[j]?=some t→j≠i→∀ x∈f t,x.Key≠(rulesR kind)[i].Key:=by
  intro j t ht hne x hx he
  rw [hf t (List.mem_of_getElem? ht) x hx] at he
  exact hne (key_inj ht hr he)
 have low:ofR (rulesR kind)[i].Key (((rulesR kind).take i).flatMap f)=[]:=of_none fun x hx=>by
  obtain ⟨t,ht,hxt⟩:=List.mem_flatMap.1 hx
  obtain ⟨j,hj,rfl⟩:=List.getElem_of_mem ht
  have hji:j<i:=by simp at hj; omega
  have hjr:(rulesR kind)[j]?=some ((rulesR kind).take i)[j]:=by
   have:=List.getElem?_eq_getElem hj
   rwa [List.getElem?_take_of_lt hji] at this
  exact key j _ hjr (by omega) x hxt
 have high:ofR (rulesR kind)[i].Key (((rulesR kind).drop (i+1)).flatMap f)=[]:=of_none fun x hx=>by
  obtain ⟨t,ht,hxt⟩:=List.mem_flatMap.1 hx
  obtain ⟨j,hj,rfl⟩:=List.getElem_of_mem ht
  have hjr:(rulesR kind)[i+1+j]?=some ((rulesR kind).drop (i+1))[j]:=by
   have:=List.getElem?_eq_getElem hj
   rwa [List.getElem?_drop] at this
  exact key _ _ hjr (by omega) x hxt
 have hfl:(rulesR kind).flatMap f=((rulesR kind).take i).flatMap f++(f (rulesR kind)[i]++((rulesR kind).drop (i+1)).flatMap f):=by
  conv=>lhs; rw [hsp]
  rw [List.flatMap_append,List.flatMap_cons]
 rw [hfl,of_app,of_app,low,high,List.nil_append,List.append_nil]
 exact of_all (hf _ h)
theorem of_fill {kind:List UInt8} {ls:List SheetLine} {r:SheetRule} (h:r∈rulesR kind):ofR r.Key (fillL kind ls)=stdOr r (ofR r.Key ls):=of_flat (fun r _ x hx=>std_key hx) h
theorem std_idem (r:SheetRule) (g:List SheetLine):stdOr r (stdOr r g)=stdOr r g:=by
 unfold stdOr
 by_cases h:(((g.length:Nat):Int) == 0 && !r.Many)=true
 ·rw [if_pos h]; rfl
 ·rw [if_neg h,if_neg h]
theorem fill_fill (kind:List UInt8) (ls:List SheetLine):fillL kind (fillL kind ls)=fillL kind ls:=flat_congr fun r hr=>by rw [of_fill hr,std_idem]
theorem one_of {kind:List UInt8} {ls:List SheetLine} {r:SheetRule} (hl:linesR kind ls=true) (h:r∈rulesR kind) (hm:r.Many=false):(ofR r.Key ls).length≤1:=by
 rcases hg:ofR r.Key ls with _ | ⟨x,g⟩
 ·simp
 ·have hx:x∈ofR r.Key ls:=by rw [hg]; simp
  have hk:=of_key hx
  have h2:=(((lines_char kind ls).1 hl).1 x (List.mem_filter.1 hx).1).2
  rw [hk,(rule_at h).2,hm,cnt_of,hg] at h2
  simp only [cntOk,Bool.not_false,Bool.true_and,Bool.not_eq_true',Bool.or_eq_false_iff,decide_eq_false_iff_not] at h2
  omega
theorem keep_of {kind:List UInt8} {r:SheetRule} (h:r∈rulesR kind) {x:SheetLine} (hx:x.Key=r.Key):keepL kind x=(r.Many || !(r.Default == x.Words)):=by
 rw [keepL,hx,(rule_at h).1]
theorem of_trim (kind key:List UInt8) (ls:List SheetLine):ofR key (trimL kind ls)=(ofR key ls).filter (keepL kind):=by
 simp only [ofR,trimL,List.filter_filter]
 congr 1
 funext x
 exact Bool.and_comm _ _
theorem std_trim {kind:List UInt8} {ls:List SheetLine} {r:SheetRule} (hl:linesR kind ls=true) (h:r∈rulesR kind):stdOr r (ofR r.Key (trimL kind ls))=stdOr r (ofR r.Key ls):=by
 rw [of_trim]
 rcases hm:r.Many with _ | _
 ·have h1:=one_of hl h hm
  rcases hg:ofR r.Key ls with _ | ⟨x,g⟩
  ·rfl
  ·rw [hg] at h1
   obtain rfl:g=[]:=List.eq_nil_of_length_eq_zero (by simpa using h1)
   have hx:x∈ofR r.Key ls:=by rw [hg]; simp
   have hk:=of_key hx
   have hkp:=keep_of h hk
   rw [hm,Bool.false_or] at hkp
   by_cases he:r.Default=x.Words
   ·have:keepL kind x=false:=by rw [hkp,he]; simp
    rw [List.filter_cons,this]
    have hxe:x=⟨r.Key,r.Default⟩:=by cases x; simp at hk he; simp [hk,he]
    simp [stdOr,hm,hxe]
   ·have:keepL kind x=true:=by rw [hkp]; simp [he]
    rw [List.filter_cons,this]
    simp
 ·rw [List.filter_eq_self.2 fun x hx=>by rw [keep_of h (of_key hx),hm]; rfl]
theorem fill_trim {kind:List UInt8} {ls:List SheetLine} (hl:linesR kind ls=true):fillL kind (trimL kind ls)=fillL kind ls:=flat_congr fun r hr=>std_trim hl hr
theorem filter_flat {α β:Type} {p:β→Bool} {f:α→List β}:∀ l:List α,(l.flatMap f).filter p=l.flatMap fun a=>(f a).filter p
 | []=>rfl
 | a::l=>by rw [List.flatMap_cons,List.flatMap_cons,List.filter_append,filter_flat l]
theorem trim_fill {kind:List UInt8} {ls:List SheetLine} (hl:linesR kind ls=true):trimL kind (fillL kind ls)=trimL kind ls:=by
 have hb:=by_keys (fun x hx=>lines_key hl hx) (lines_pw hl)
 have e:trimL kind ls=(rulesR kind).flatMap fun r=>(ofR r.Key ls).filter (keepL kind):=by
  conv=>lhs; rw [← hb]
  exact filter_flat _
 rw [e,trimL,fillL,filter_flat]
 refine flat_congr fun r hr=>?_
 unfold stdOr
 split
 ·rename_i hc
  simp only [yB,Bool.not_eq_true',beq_iff_eq] at hc
  have hg:ofR r.Key ls=[]:=List.eq_nil_of_length_eq_zero (by omega)
  rw [hg,List.filter_cons,keep_of hr rfl,hc.2]
  simp
 ·rfl
theorem rules_pw (kind:List UInt8):(rulesR kind).Pairwise fun r t=>ruleIx kind r.Key<ruleIx kind t.Key:=by
 refine List.pairwise_iff_getElem.2 fun i j hi hj hij=>?_
 have h1:=ix_rule (List.getElem?_eq_getElem hi)
 have h2:=ix_rule (List.getElem?_eq_getElem hj)
 omega
theorem fill_lines {kind:List UInt8} {ls:List SheetLine} (hl:linesR kind ls=true):linesR kind (fillL kind ls)=true:=by
 have hc:=(lines_char kind ls).1 hl
 refine (lines_char kind _).2 ⟨fun x hx=>?_,?_⟩
 ·obtain ⟨r,hr,hxr⟩:=List.mem_flatMap.1 hx
  have hk:=std_key hxr
  have hcnt:cntK (fillL kind ls) x.Key=(stdOr r (ofR r.Key ls)).length:=by rw [cnt_of,hk,of_fill hr]
  rw [hcnt,hk,(rule_at hr).2]
  unfold stdOr at hxr ⊢
  by_cases h:(((ofR r.Key ls).length:Nat) == 0 && !r.Many)=true
  ·have h':((((ofR r.Key ls).length:Nat):Int) == 0 && !r.Many)=true:=by
    simp only [yB,beq_iff_eq] at h ⊢
    exact ⟨by omega,h.2⟩
   rw [if_pos h'] at hxr ⊢
   obtain rfl:=List.mem_singleton.1 hxr
   simp only [yB,Bool.not_eq_true'] at h
   exact ⟨std_fits hr h.2,by rw [h.2]; rfl⟩
  ·have h':¬ ((((ofR r.Key ls).length:Nat):Int) == 0 && !r.Many)=true:=by
    intro h'
    apply h
    simp only [yB,beq_iff_eq] at h' ⊢
    exact ⟨by omega,h'.2⟩
   rw [if_neg h'] at hxr ⊢
   have hx2:=(List.mem_filter.1 hxr).1
   obtain ⟨h3,h4⟩:=hc.1 x hx2
   rw [hk] at h3
   refine ⟨h3,?_⟩
   rw [hk,(rule_at hr).2,cnt_of] at h4
   exact h4
 ·rw [fillL,List.pairwise_flatMap]
  refine ⟨fun r hr=>?_,(rules_pw kind).imp fun {r t} hrt x hx y hy=>?_⟩
  ·unfold stdOr
   split
   ·exact List.pairwise_singleton _ _
   ·exact hc.2.filter _
  ·simp only [lineLess,Bool.or_eq_true,decide_eq_true_eq]
   rw [std_key hx,std_key hy]
   exact .inl hrt
theorem trim_lines {kind:List UInt8} {ls:List SheetLine} (hl:linesR kind ls=true):linesR kind (trimL kind ls)=true:=by
 have hc:=(lines_char kind ls).1 hl
 refine (lines_char kind _).2 ⟨fun x hx=>?_,hc.2.filter _⟩
 obtain ⟨h3,h4⟩:=hc.1 x (List.mem_filter.1 hx).1
 refine ⟨h3,cntOk_le h4 ?_⟩
 rw [cnt_of,cnt_of,of_trim]
 exact List.length_filter_le _ _
theorem fillB_is {b:SheetBlock} (h:blockR b=true):fillB b=⟨b.Kind,b.Name,fillL b.Kind b.Lines⟩:=by
 simp only [blockR,yB] at h
 exact fillB_law h.2
theorem blockR_fill {b:SheetBlock} (h:blockR b=true):blockR (fillB b)=true:=by
 rw [fillB_is h]
 simp only [blockR,yB] at h ⊢
 exact ⟨h.1,fill_lines h.2⟩
theorem blockR_trim {b:SheetBlock} (h:blockR b=true):blockR (trimB b)=true:=by
 simp only [blockR,trimB,yB] at h ⊢
 exact ⟨h.1,trim_lines h.2⟩
theorem sheet_at {s:Sheet} (h:sheetR s=true) {b:SheetBlock} (hb:b∈s.Blocks):blockR b=true:=by
 simp only [sheetR,yB] at h
 obtain ⟨i,hi,rfl⟩:=List.getElem_of_mem hb
 have:=List.all_eq_true.1 h.2 (s.Blocks[i],i) (List.mem_of_getElem? (zip_at (List.getElem?_eq_getElem hi)))
 simp only [sheetP,yB] at this
 exact this.1
theorem sheet_map {s:Sheet} {f:SheetBlock→SheetBlock} (h:sheetR s=true) (hf:∀ b,blockR b=true→(f b).Kind=b.Kind∧(f b).Name=b.Name∧blockR (f b)=true):sheetR ⟨s.Blocks.map f⟩=true:=by
 have h0:=h
 simp only [sheetR,yB,decide_eq_true_eq,zh] at h ⊢
 refine ⟨h.1,List.all_eq_true.2 fun q hq=>?_⟩
 obtain ⟨i,hi,rfl⟩:=List.getElem_of_mem hq
 have hi':i<s.Blocks.length:=by simpa using hi
 have hb:=sheet_at h0 (List.getElem_mem hi')
 obtain ⟨k1,k2,k3⟩:=hf _ hb
 have h2:=List.all_eq_true.1 h.2 (s.Blocks[i],i) (List.mem_of_getElem? (zip_at (List.getElem?_eq_getElem hi')))
 simp only [List.getElem_zipIdx,List.getElem_map,ze,sheetP,yB] at h2 ⊢
 refine ⟨k3,?_⟩
 cases i with
 | zero=>rfl
 | succ i =>
  have hb1:=sheet_at h0 (List.getElem_mem (show i<s.Blocks.length by omega))
  obtain ⟨j1,j2,j3⟩:=hf _ hb1
  rw [prevB_some (y:=f s.Blocks[i]) (by simp only [Nat.add_sub_cancel,zm,List.getElem?_eq_getElem (show i<s.Blocks.length by omega),yA]) (by omega)]
  have h3:=h2.2
  rw [prevB_some (y:=s.Blocks[i]) (by simp) (by omega)] at h3
  rw [ahead] at h3 ⊢
  rw [k1,k2,j1,j2]
  exact h3
theorem sheetR_fill {s:Sheet} (h:sheetR s=true):sheetR (fillS s)=true:=by
 rw [fillS,if_pos h]
 exact sheet_map h fun b hb=>⟨by rw [fillB_is hb],by rw [fillB_is hb],blockR_fill hb⟩
theorem sheetR_trim {s:Sheet} (h:sheetR s=true):sheetR (trimS s)=true:=by
 rw [trimS,if_pos h]
 exact sheet_map h fun b hb=>⟨rfl,rfl,blockR_trim hb⟩
theorem lines_of {b:SheetBlock} (h:blockR b=true):linesR b.Kind b.Lines=true:=by
 simp only [blockR,yB] at h; exact h.2
theorem law_ff {s:Sheet} (h:sheetR s=true):fillS (fillS s)=fillS s:=by
 have h1:=sheetR_fill h
 rw [show fillS (fillS s)=⟨(fillS s).Blocks.map fillB⟩ by conv=>lhs; rw [fillS,if_pos h1]]
 rw [show fillS s=⟨s.Blocks.map fillB⟩ by rw [fillS,if_pos h]]
 simp only [List.map_map,Sheet.mk.injEq]
 refine List.map_congr_left fun b hb=>?_
 have hr:=sheet_at h hb
 simp only [Function.comp]
 rw [fillB_is (blockR_fill hr),fillB_is hr]
 simp only [fill_fill]
theorem law_ft {s:Sheet} (h:sheetR s=true):fillS (trimS s)=fillS s:=by
 have h1:=sheetR_trim h
 rw [show fillS (trimS s)=⟨(trimS s).Blocks.map fillB⟩ by conv=>lhs; rw [fillS,if_pos h1]]
 rw [show fillS s=⟨s.Blocks.map fillB⟩ by rw [fillS,if_pos h],show trimS s=⟨s.Blocks.map trimB⟩ by rw [trimS,if_pos h]]
 simp only [List.map_map,Sheet.mk.injEq]
 refine List.map_congr_left fun b hb=>?_
 have hr:=sheet_at h hb
 simp only [Function.comp]
 rw [fillB_is (blockR_trim hr),fillB_is hr]
 simp only [trimB,fill_trim (lines_of hr)]
theorem law_tf {s:Sheet} (h:sheetR s=true):trimS (fillS s)=trimS s:=by
 have h1:=sheetR_fill h
 rw [show trimS (fillS s)=⟨(fillS s).Blocks.map trimB⟩ by conv=>lhs; rw [trimS,if_pos h1]]
 rw [show fillS s=⟨s.Blocks.map fillB⟩ by rw [fillS,if_pos h],show trimS s=⟨s.Blocks.map trimB⟩ by rw [trimS,if_pos h]]
 simp only [List.map_map,Sheet.mk.injEq]
 refine List.map_congr_left fun b hb=>?_
 have hr:=sheet_at h hb
 simp only [Function.comp]
 rw [fillB_is hr]
 simp only [trimB,trim_fill (lines_of hr)]
theorem getL_std (b:SheetBlock) (x:SheetRule):getL b x=stdOr x (ofR x.Key b.Lines):=rfl
theorem find_map {f:SheetBlock→SheetBlock} {kind name:List UInt8}:∀ {bs:List SheetBlock},(∀ b∈bs,(f b).Kind=b.Kind∧(f b).Name=b.Name)→(bs.map f).find? (isB kind name)=(bs.find? (isB kind name)).map f
 | [],_=>rfl
 | b::bs,h=>by
  have hb:=h b (by simp)
  have e:isB kind name (f b)=isB kind name b:=by rw [isB,isB,hb.1,hb.2]
  rw [List.map_cons,List.find?_cons,List.find?_cons,e]
  split
  ·rfl
  ·exact find_map fun y hy=>h y (by simp [hy])
theorem law_get {s:Sheet} (h:sheetR s=true) {b:SheetBlock} (hb:b∈s.Blocks) {r:SheetRule} (hr:r∈rulesR b.Kind) :
  ∃ l,getR s b.Kind b.Name r.Key=(l,true)∧getR (fillS s) b.Kind b.Name r.Key=(l,true)∧getR (trimS s) b.Kind b.Name r.Key=(l,true)∧(r.Many=false→l.length=1):=by
 obtain ⟨c,hc⟩:∃ c,s.Blocks.find? (isB b.Kind b.Name)=some c:=by
  rcases hf:s.Blocks.find? (isB b.Kind b.Name) with _ | c
  ·have:=List.find?_eq_none.1 hf b hb
   simp [isB] at this
  ·exact ⟨c,rfl⟩
 have hcm:=List.mem_of_find?_eq_some hc
 have hcp:=List.find?_some hc
 simp only [isB,yB,beq_iff_eq] at hcp
 have hcr:=sheet_at h hcm
 have hr2:r∈rulesR c.Kind:=by rw [hcp.1]; exact hr
 have ro:=(rule_at hr).1
 have hlc:=lines_of hcr
 refine ⟨getL c r,getR_good h hc ro,?_,?_,fun hm=>?_⟩
 ·have e1:(fillS s).Blocks.find? (isB b.Kind b.Name)=some (fillB c):=by
   rw [show fillS s=⟨s.Blocks.map fillB⟩ by rw [fillS,if_pos h]]
   rw [find_map (fun y hy=>by rw [fillB_is (sheet_at h hy)]; exact ⟨rfl,rfl⟩),hc]; rfl
  rw [getR_good (sheetR_fill h) e1 ro,fillB_is hcr,getL_std,getL_std]
  simp only
  rw [of_fill hr2,std_idem]
 ·have e1:(trimS s).Blocks.find? (isB b.Kind b.Name)=some (trimB c):=by
   rw [show trimS s=⟨s.Blocks.map trimB⟩ by rw [trimS,if_pos h]]
   rw [find_map (f:=trimB) (fun y hy=>⟨rfl,rfl⟩),hc]; rfl
  rw [getR_good (sheetR_trim h) e1 ro,getL_std,getL_std]
  simp only [trimB]
  rw [std_trim hlc hr2]
 ·have h1:=one_of hlc hr2 hm
  rw [getL_std]
  unfold stdOr
  split
  ·rfl
  ·rename_i hn
   simp only [hm,Bool.not_false,Bool.and_true,beq_iff_eq] at hn
   omega
end Go.Proofs.YtnnnemgbgilfaaaDoor.W
