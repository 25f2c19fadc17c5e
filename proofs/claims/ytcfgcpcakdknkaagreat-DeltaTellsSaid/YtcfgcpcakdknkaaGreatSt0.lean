/- The plain law of a stable sort. No condition beyond those that each theorem says. -/
import Derived.Test.YtcfgcpcakdknkaaGreatBa0
import Derived.Test.YtcfgcpcakdknkaaGreatEdX
namespace Go.Proofs.YtcfgcpcakdknkaaGreat
open Go Go.Gm
set_option linter.unusedVariables false
set_option linter.unusedSimpArgs false
set_option maxHeartbeats 4000000
set_option maxRecDepth 8000
section
variable {α:Type} {κ:α→Int}
abbrev RiseK (κ:α→Int) (l:List α):Prop:=l.Pairwise fun x y=>κ x<κ y
def sortZ (κ:α→Int) (l:List α):List α:=l.mergeSort fun x y=>decide (κ x≤κ y)
theorem sortZ_perm (l:List α):(sortZ κ l).Perm l:=List.mergeSort_perm _ _
theorem sortZ_len (l:List α):(sortZ κ l).length=l.length:=(sortZ_perm l).length_eq
theorem riseK_ext:∀ {a b:List α},RiseK κ a→RiseK κ b→(∀ x,x ∈ a ↔ x ∈ b)→a=b
 | [],[],_,_,_=>rfl
 | [],y :: b,_,_,hm=>by have:=(hm y).2 (by simp);cases this
 | x :: a,[],_,_,hm=>by have:=(hm x).1 (by simp);cases this
 | x :: a,y :: b,ha,hb,hm=>by
   have ha':=List.pairwise_cons.1 ha
   have hb':=List.pairwise_cons.1 hb
   have e1:x=y:=by
     rcases List.mem_cons.1 ((hm x).1 (by simp)) with e | e
     · exact e
     · rcases List.mem_cons.1 ((hm y).2 (by simp)) with e2 | e2
       · exact e2.symm
       · have:=ha'.1 y e2;have:=hb'.1 x e;omega
   subst e1
   congr 1
   refine riseK_ext ha'.2 hb'.2 fun z=>⟨fun hz=>?_,fun hz=>?_⟩
   · rcases List.mem_cons.1 ((hm z).1 (List.mem_cons_of_mem _ hz)) with e | e
     · subst e;have:=ha'.1 z hz;omega
     · exact e
   · rcases List.mem_cons.1 ((hm z).2 (List.mem_cons_of_mem _ hz)) with e | e
     · subst e;have:=hb'.1 z hz;omega
     · exact e
abbrev Unl (κ:α→Int) (l:List α):Prop:=l.Pairwise fun x y=>κ x≠κ y
theorem Unl.perm {a b:List α} (h:Unl κ a) (hp:a.Perm b):Unl κ b:=(hp.pairwise_iff (fun {x y} h=>h.symm)).1 h
theorem RiseK.unl {l:List α} (h:RiseK κ l):Unl κ l:=h.imp fun h=>by omega
theorem sortZ_rise {l:List α} (h:Unl κ l):RiseK κ (sortZ κ l):=by
 have h1:(sortZ κ l).Pairwise fun x y=>decide (κ x≤κ y)=true:=List.pairwise_mergeSort (fun a b c h1 h2=>by simp at *;omega) (fun a b=>by simp;omega) l
 have h2:Unl κ (sortZ κ l):=h.perm (sortZ_perm l).symm
 exact (h1.and h2).imp fun {x y} k => by have h3 : κ x ≤ κ y := by simpa using k.1
                                         have h4:=k.2
                                         omega
theorem sortZ_eq {l z:List α} (hp:z.Perm l) (hz:RiseK κ z):z=sortZ κ l:=
 riseK_ext hz (sortZ_rise (hz.unl.perm hp)) fun x=>by rw [hp.mem_iff,(sortZ_perm l).mem_iff]
theorem sortZ_parts {s a b:List α} (hs:(a++b).Perm s) (ha:Unl κ a) (hb:Unl κ b) (h:∀ x ∈ a,∀ y ∈ b,κ x<κ y):sortZ κ a++sortZ κ b=sortZ κ s:=by
 refine sortZ_eq ((List.Perm.append (sortZ_perm a) (sortZ_perm b)).trans hs) ?_
 refine List.pairwise_append.2 ⟨sortZ_rise ha,sortZ_rise hb,fun x hx y hy=>h x ((sortZ_perm a).mem_iff.1 hx) y ((sortZ_perm b).mem_iff.1 hy)⟩
theorem sym_parts {a1 a2 b1 b2:List α} (hx:RiseK κ (a1++a2)) (hy:RiseK κ (b1++b2)) (h1:∀ x ∈ a1,∀ y ∈ b2,κ x<κ y) (h2:∀ x ∈ b1,∀ y ∈ a2,κ x<κ y) (hu:Unl κ ((a1++a2)++(b1++b2))):sortZ κ (a1++b1)++sortZ κ (a2++b2)=sortZ κ ((a1++a2)++(b1++b2)):=by
 have hx':=List.pairwise_append.1 hx
 have hy':=List.pairwise_append.1 hy
 have hp:((a1++b1)++(a2++b2)).Perm ((a1++a2)++(b1++b2)):=by
   rw [List.append_assoc,List.append_assoc]
   refine List.Perm.append_left a1 ?_
   rw [← List.append_assoc,← List.append_assoc]
   exact List.Perm.append_right b2 List.perm_append_comm
 have hu2:=hu.perm hp.symm
 have hu':=List.pairwise_append.1 hu2
 refine sortZ_parts hp hu'.1 hu'.2.1 fun x hx9 y hy9=>?_
 rcases List.mem_append.1 hx9 with hx9 | hx9 <;> rcases List.mem_append.1 hy9 with hy9 | hy9
 · exact hx'.2.2 x hx9 y hy9
 · exact h1 x hx9 y hy9
 · exact h2 x hx9 y hy9
 · exact hy'.2.2 x hx9 y hy9
def seg (l:List α) (a b:Nat):List α:=(l.take b).drop a
theorem seg_len {l:List α} {a b:Nat} (hb:b≤l.length):(seg l a b).length=b - a:=by
 unfold seg
 rw [List.length_drop,List.length_take];omega
def sortSeg (κ:α→Int) (l:List α) (a b:Nat):List α:=l.take a++(sortZ κ (seg l a b)++l.drop b)
def rotSeg (l:List α) (a m b:Nat):List α:=l.take a++(seg l m b++(seg l a m++l.drop b))
theorem drop_cut {p:List α} {a m:Nat} (h:a≤m):p.drop a=(p.take m).drop a++p.drop m:=by
 by_cases hm:m≤p.length
 · have e:=List.drop_append_of_le_length (l₁:=p.take m) (l₂:=p.drop m) (i:=a) (by rw [List.length_take];omega)
   rw [List.take_append_drop] at e
   exact e
 · rw [List.take_of_length_le (by omega),List.drop_eq_nil_of_le (show p.length≤m by omega),List.append_nil]
theorem seg_split {l:List α} {a m b:Nat} (h1:a≤m) (h2:m≤b):seg l a b=seg l a m++seg l m b:=by
 unfold seg
 rw [drop_cut (p:=l.take b) h1,List.take_take,Nat.min_eq_left h2]
theorem seg_all {l:List α} {a b:Nat} (h:a≤b):l.take a++(seg l a b++l.drop b)=l:=by
 unfold seg
 have e:l.take a++(l.take b).drop a=l.take b:=by
   have:=List.take_append_drop a (l.take b)
   rwa [List.take_take,Nat.min_eq_left h] at this
 rw [← List.append_assoc,e,List.take_append_drop]
theorem sortSeg_perm {l:List α} {a b:Nat} (h:a≤b):(sortSeg κ l a b).Perm l:=by
 unfold sortSeg
 conv=>rhs;rw [← seg_all (l:=l) h]
 exact List.Perm.append_left _ (List.Perm.append_right _ (sortZ_perm _))
theorem sortSeg_len {l:List α} {a b:Nat} (h:a≤b):(sortSeg κ l a b).length=l.length:=(sortSeg_perm h).length_eq
theorem take_app {p s:List α} {a:Nat} (h:a=p.length):(p++s).take a=p:=by subst h;exact List.take_left
theorem drop_app {p s:List α} {a:Nat} (h:a=p.length):(p++s).drop a=s:=by subst h;exact List.drop_left
theorem seg_app {p m s:List α} {a b:Nat} (ha:a=p.length) (hb:b=p.length+m.length):seg (p++(m++s)) a b=m:=by
 unfold seg
 rw [← List.append_assoc,take_app (by rw [hb,List.length_append]),drop_app ha]
theorem sortSeg_app {p m s:List α} {a b:Nat} (ha:a=p.length) (hb:b=p.length+m.length):sortSeg κ (p++(m++s)) a b=p++(sortZ κ m++s):=by
 unfold sortSeg
 rw [seg_app ha hb,take_app ha,← List.append_assoc p m s,drop_app (by rw [hb,List.length_append])]
theorem rotSeg_app {p x y s:List α} {a m b:Nat} (ha:a=p.length) (hm:m=p.length+x.length) (hb:b=p.length+x.length+y.length):rotSeg (p++(x++(y++s))) a m b=p++(y++(x++s)):=by
 have h1:seg (p++(x++(y++s))) m b=y:=by
   rw [← List.append_assoc p x]
   exact seg_app (by rw [List.length_append];omega) (by rw [List.length_append];omega)
 have h2:(p++(x++(y++s))).drop b=s:=by
   rw [← List.append_assoc p x,← List.append_assoc (p++x) y]
   exact drop_app (by simp only [List.length_append];omega)
 unfold rotSeg
 rw [take_app ha,h1,seg_app ha hm,h2]
theorem sym_step {l:List α} {a start m e b mid:Nat} (h1:a≤start) (h2:start≤m) (h3:m≤e) (h4:e≤b) (hb:b≤l.length) (hmid:mid+m=start+e)
   (hx:RiseK κ (seg l a m)) (hy:RiseK κ (seg l m b)) (hu:Unl κ (seg l a b)) (hc1:∀ x ∈ seg l a start,∀ y ∈ seg l e b,κ x<κ y) (hc2:∀ x ∈ seg l m e,∀ y ∈ seg l start m,κ x<κ y) :
   sortSeg κ (sortSeg κ (rotSeg l start m e) a mid) mid b=sortSeg κ l a b∧RiseK κ (seg (rotSeg l start m e) a start)∧RiseK κ (seg (rotSeg l start m e) start mid)∧RiseK κ (seg (sortSeg κ (rotSeg l start m e) a mid) mid e)∧RiseK κ (seg (sortSeg κ (rotSeg l start m e) a mid) e b)∧Unl κ (seg (rotSeg l start m e) a mid)∧Unl κ (seg (sortSeg κ (rotSeg l start m e) a mid) mid b):=by
 obtain ⟨p,hp⟩:∃ z,z=l.take a:=⟨_,rfl⟩
 obtain ⟨a1,ha1⟩:∃ z,z=seg l a start:=⟨_,rfl⟩
 obtain ⟨a2,ha2⟩:∃ z,z=seg l start m:=⟨_,rfl⟩
 obtain ⟨b1,hb1⟩:∃ z,z=seg l m e:=⟨_,rfl⟩
 obtain ⟨b2,hb2⟩:∃ z,z=seg l e b:=⟨_,rfl⟩
 obtain ⟨s,hs⟩:∃ z,z=l.drop b:=⟨_,rfl⟩
 have lp:p.length=a:=by rw [hp,List.length_take];omega
 have la1:a1.length=start - a:=by rw [ha1,seg_len (by omega)]
 have la2:a2.length=m - start:=by rw [ha2,seg_len (by omega)]
 have lb1:b1.length=e - m:=by rw [hb1,seg_len (by omega)]
 have lb2:b2.length=b - e:=by rw [hb2,seg_len (by omega)]
 have hxm:seg l a m=a1++a2:=by rw [ha1,ha2];exact seg_split h1 h2
 have hym:seg l m b=b1++b2:=by rw [hb1,hb2];exact seg_split h3 h4
 have hall:seg l a b=(a1++a2)++(b1++b2):=by rw [← hxm,← hym];exact seg_split (by omega) (by omega)
 have hl:l=p++(a1++(a2++(b1++(b2++s)))):=by
   have h9:=seg_all (l:=l) (a:=a) (b:=b) (by omega)
   rw [hall,← hp,← hs] at h9
   rw [← h9];simp only [List.append_assoc]
 rw [hxm] at hx
 rw [hym] at hy
 rw [hall] at hu
 rw [← ha1,← hb2] at hc1
 rw [← hb1,← ha2] at hc2
 have hrot:rotSeg l start m e=p++(a1++(b1++(a2++(b2++s)))):=by
   have h9:=rotSeg_app (p:=p++a1) (x:=a2) (y:=b1) (s:=b2++s) (a:=start) (m:=m) (b:=e) (by rw [List.length_append];omega) (by rw [List.length_append];omega) (by rw [List.length_append];omega)
   rw [hl]
   simpa only [List.append_assoc] using h9
 have hso:sortSeg κ (rotSeg l start m e) a mid=p++(sortZ κ (a1++b1)++(a2++(b2++s))):=by
   have h9:=sortSeg_app (κ:=κ) (p:=p) (m:=a1++b1) (s:=a2++(b2++s)) (a:=a) (b:=mid) lp.symm (by rw [List.length_append];omega)
   rw [hrot]
   simpa only [List.append_assoc] using h9
 have lz:(sortZ κ (a1++b1)).length=mid - a:=by rw [sortZ_len,List.length_append];omega
 have hx':=List.pairwise_append.1 hx
 have hy':=List.pairwise_append.1 hy
 have hp2:((a1++b1)++(a2++b2)).Perm ((a1++a2)++(b1++b2)):=by
   rw [List.append_assoc,List.append_assoc]
   refine List.Perm.append_left a1 ?_
   rw [← List.append_assoc,← List.append_assoc]
   exact List.Perm.append_right b2 List.perm_append_comm
 have hu':=List.pairwise_append.1 (hu.perm hp2.symm)
 refine ⟨?_,?_,?_,?_,?_,?_,?_⟩
 · have h9:=sortSeg_app (κ:=κ) (p:=p++sortZ κ (a1++b1)) (m:=a2++b2) (s:=s) (a:=mid) (b:=b) (by rw [List.length_append,lz];omega) (by rw [List.length_append,List.length_append,lz];omega)
   have h8:=sortSeg_app (κ:=κ) (p:=p) (m:=(a1++a2)++(b1++b2)) (s:=s) (a:=a) (b:=b) lp.symm (by simp only [List.length_append];omega)
   rw [hso]
   simp only [List.append_assoc] at h9 h8 ⊢
   have h7:=sym_parts hx hy hc1 hc2 hu
   simp only [List.append_assoc] at h7
   rw [h9,hl,h8,← h7]
   simp only [List.append_assoc]
 · rw [hrot,seg_app (m:=a1) lp.symm (by omega)];exact hx'.1
 · have h9:=seg_app (p:=p++a1) (m:=b1) (s:=a2++(b2++s)) (a:=start) (b:=mid) (by rw [List.length_append];omega) (by rw [List.length_append];omega)
   rw [hrot]
   rw [List.append_assoc] at h9
   rw [h9];exact hy'.1
 · have h9:=seg_app (p:=p++sortZ κ (a1++b1)) (m:=a2) (s:=b2++s) (a:=mid) (b:=e) (by rw [List.length_append,lz];omega) (by rw [List.length_append,lz];omega)
   rw [hso]
   rw [List.append_assoc] at h9
   rw [h9];exact hx'.2.1
 · have h9:=seg_app (p:=p++(sortZ κ (a1++b1)++a2)) (m:=b2) (s:=s) (a:=e) (b:=b) (by simp only [List.length_append,lz];omega) (by simp only [List.length_append,lz];omega)
   rw [hso]
   simp only [List.append_assoc] at h9
   rw [h9];exact hy'.2.1
 · have h9:=seg_app (p:=p) (m:=a1++b1) (s:=a2++(b2++s)) (a:=a) (b:=mid) lp.symm (by rw [List.length_append];omega)
   rw [hrot]
   rw [List.append_assoc] at h9
   rw [h9];exact hu'.1
 · have h9:=seg_app (p:=p++sortZ κ (a1++b1)) (m:=a2++b2) (s:=s) (a:=mid) (b:=b) (by rw [List.length_append,lz];omega) (by rw [List.length_append,List.length_append,lz];omega)
   rw [hso]
   simp only [List.append_assoc] at h9
   rw [h9];exact hu'.2.1
theorem sortZ_congr {a b:List α} (h:a.Perm b) (hu:Unl κ b):sortZ κ a=sortZ κ b:=sortZ_eq ((sortZ_perm a).trans h) (sortZ_rise (hu.perm h.symm))
theorem ins_rise {y:List α} {x:α} {k:Nat} (hy:RiseK κ y) (h1:∀ z ∈ y.take k,κ z<κ x) (h2:∀ z ∈ y.drop k,κ x<κ z):y.take k++x :: y.drop k=sortZ κ (x :: y):=by
 refine sortZ_eq ?_ ?_
 · have h:=List.perm_middle (a:=x) (l₁:=y.take k) (l₂:=y.drop k)
   rwa [List.take_append_drop] at h
 · have hy':RiseK κ (y.take k++y.drop k):=by rw [List.take_append_drop];exact hy
   have hp:=List.pairwise_append.1 hy'
   refine List.pairwise_append.2 ⟨hp.1,List.pairwise_cons.2 ⟨h2,hp.2.1⟩,fun z hz w hw=>?_⟩
   rcases List.mem_cons.1 hw with rfl | hw
   · exact h1 z hz
   · exact hp.2.2 z hz w hw
theorem ins_last {y:List α} {x:α} {k:Nat} (hy:RiseK κ y) (h1:∀ z ∈ y.take k,κ z<κ x) (h2:∀ z ∈ y.drop k,κ x<κ z):y.take k++x :: y.drop k=sortZ κ (y ++ [x]):=by
 rw [ins_rise hy h1 h2]
 have hp:(x :: y).Perm (y ++ [x]):=(List.perm_append_singleton x y).symm
 have hu:Unl κ (x :: y):=by
   refine List.pairwise_cons.2 ⟨fun z hz=>?_,hy.unl⟩
   rw [← List.take_append_drop k y] at hz
   rcases List.mem_append.1 hz with hz | hz
   · have:=h1 z hz;omega
   · have:=h2 z hz;omega
 exact sortZ_congr hp (hu.perm hp)
theorem sortSeg_one (l:List α) {a:Nat} (h:a<l.length):sortSeg κ l a (a+1)=l:=by
 have hs:seg l a (a+1) = [l[a]]:=by
   unfold seg
   rw [List.take_succ_eq_append_getElem h,List.drop_append_of_le_length (by rw [List.length_take];omega),List.drop_eq_nil_of_le (by rw [List.length_take];omega)];rfl
 have h1:=seg_all (l:=l) (a:=a) (b:=a+1) (by omega)
 have h2:sortZ κ [l[a]] = [l[a]]:=(sortZ_eq (List.Perm.refl _) (List.pairwise_singleton _ _)).symm
 unfold sortSeg
 rw [hs,h2]
 rw [hs] at h1
 exact h1
theorem sortSeg_next {l:List α} {a i k:Nat} (hai:a≤i) (hil:i<l.length) (hu:Unl κ (seg l a (i+1))) (h1:∀ z ∈ (sortZ κ (seg l a i)).take k,κ z<κ l[i]) (h2:∀ z ∈ (sortZ κ (seg l a i)).drop k,κ l[i] < κ z) :
   l.take a++((sortZ κ (seg l a i)).take k++l[i] :: ((sortZ κ (seg l a i)).drop k++l.drop (i+1)))=sortSeg κ l a (i+1):=by
 have hs:seg l a (i+1)=seg l a i ++ [l[i]]:=by
   unfold seg
   rw [List.take_succ_eq_append_getElem hil,List.drop_append_of_le_length (by rw [List.length_take];omega)]
 rw [hs] at hu
 have hu':=List.pairwise_append.1 hu
 have hz:=sortZ_rise (κ:=κ) hu'.1
 have e:=ins_last hz h1 h2
 have e2:sortZ κ (sortZ κ (seg l a i) ++ [l[i]])=sortZ κ (seg l a i ++ [l[i]]):=sortZ_congr (List.Perm.append_right _ (sortZ_perm _)) hu
 unfold sortSeg
 rw [hs,← e2,← e]
 simp only [List.append_assoc,List.cons_append]
theorem seg_sort_in {l:List α} {a b:Nat} (h:a≤b) (hb:b≤l.length):seg (sortSeg κ l a b) a b=sortZ κ (seg l a b):=by
 unfold sortSeg
 exact seg_app (by rw [List.length_take];omega) (by rw [List.length_take,sortZ_len,seg_len hb];omega)
theorem seg_sort_left {l:List α} {a b c d:Nat} (hb:b≤l.length) (hab:a≤b) (h:d≤a):seg (sortSeg κ l a b) c d=seg l c d:=by
 unfold sortSeg seg
 rw [List.take_append_of_le_length (by rw [List.length_take];omega),List.take_take,Nat.min_eq_left h]
theorem seg_sort_right {l:List α} {a b c d:Nat} (hb:b≤l.length) (hab:a≤b) (h:b≤c):seg (sortSeg κ l a b) c d=seg l c d:=by
 have e:(sortSeg κ l a b).drop c=l.drop c:=by
   unfold sortSeg
   rw [← List.append_assoc]
   have hlen:(l.take a++sortZ κ (seg l a b)).length=b:=by rw [List.length_append,List.length_take,sortZ_len,seg_len hb];omega
   rw [List.drop_append,List.drop_eq_nil_of_le (by omega),List.nil_append,hlen,List.drop_drop]
   congr 1;omega
 unfold seg
 rw [List.drop_take,List.drop_take,e]
def BlkR (κ:α→Int) (l:List α) (bs c:Nat):Prop:=∀ t,c≤t*bs→t*bs<l.length→RiseK κ (seg l (t*bs) (min (t*bs+bs) l.length))
def BlkL (κ:α→Int) (l:List α) (bs c:Nat):Prop:=∀ t,t*bs+bs≤c→RiseK κ (seg l (t*bs) (t*bs+bs))
theorem blk_end {l:List α} {bs:Nat} (h:BlkR κ l bs 0) (hb:l.length≤bs):RiseK κ l:=by
 by_cases h0:l.length=0
 · rw [List.eq_nil_of_length_eq_zero h0];exact List.Pairwise.nil
 · have h1:=h 0 (by omega) (by omega)
   rw [Nat.zero_mul,Nat.zero_add,Nat.min_eq_right hb] at h1
   unfold seg at h1
   rwa [List.take_length,List.drop_zero] at h1
theorem mem_seg [Inhabited α] {l:List α} {a b:Nat} (hb:b≤l.length) {x:α} : x ∈ seg l a b ↔ ∃ i,a≤i∧i<b∧Go.Gm.nth l i=x:=by
 unfold seg
 rw [List.mem_iff_getElem]
 constructor
 · rintro ⟨i,hi,e⟩
   rw [List.length_drop,List.length_take] at hi
   refine ⟨a+i,by omega,by omega,?_⟩
   rw [nth_eq (by omega),← e,List.getElem_drop,List.getElem_take]
 · rintro ⟨i,h1,h2,e⟩
   refine ⟨i - a,by rw [List.length_drop,List.length_take];omega,?_⟩
   rw [List.getElem_drop,List.getElem_take,← e,nth_eq (by omega)]
   congr 1;omega
theorem seg_idx [Inhabited α] {l:List α} {a b:Nat} (hb:b≤l.length):RiseK κ (seg l a b) ↔ ∀ i j,a≤i→i<j→j<b→κ (Go.Gm.nth l i)<κ (Go.Gm.nth l j):=by
 unfold RiseK
 rw [List.pairwise_iff_getElem]
 have hlen:(seg l a b).length=b - a:=seg_len hb
 have hget:∀ i (h:i<(seg l a b).length),(seg l a b)[i] = Go.Gm.nth l (a+i):=fun i h=>by
   rw [hlen] at h
   rw [nth_eq (show a+i<l.length by omega)]
   simp only [seg,List.getElem_drop,List.getElem_take]
 constructor
 · intro h i j h1 h2 h3
   have h9:=h (i - a) (j - a) (by omega) (by omega) (by omega)
   rw [hget,hget,show a+(i - a)=i by omega,show a+(j - a)=j by omega] at h9
   exact h9
 · intro h i j hi hj hij
   rw [hget,hget]
   exact h _ _ (by omega) (by omega) (by omega)
theorem sym_cond [Inhabited α] {l:List α} {a m b mid start s0 r0:Nat} (hb:b≤l.length) (ham:a<m) (hmb:m<b) (hma:a≤mid) (hmm:mid≤b) (hm2:2*mid≤a+b) (hx:RiseK κ (seg l a m)) (hy:RiseK κ (seg l m b))
   (hs0:(mid<m∧s0+b=mid+m∧r0=mid)∨(m≤mid∧s0=a∧r0=m)) (h1:s0≤start) (h2:start≤r0) (h3:start=s0∨κ (Go.Gm.nth l (start - 1))<κ (Go.Gm.nth l (mid+m - start))) (h4:start=r0∨κ (Go.Gm.nth l (mid+m - 1 - start))<κ (Go.Gm.nth l start)) (has:a≤s0) :
   (start≤m∧m≤mid+m - start∧mid+m - start≤b)∧(∀ x ∈ seg l a start,∀ y ∈ seg l (mid+m - start) b,κ x<κ y)∧(∀ x ∈ seg l m (mid+m - start),∀ y ∈ seg l start m,κ x<κ y):=by
 have hx':=(seg_idx (κ:=κ) (by omega)).1 hx
 have hy':=(seg_idx (κ:=κ) hb).1 hy
 refine ⟨by omega,fun x hx9 y hy9=>?_,fun x hx9 y hy9=>?_⟩
 · obtain ⟨i,i1,i2,rfl⟩:=(mem_seg (by omega)).1 hx9
   obtain ⟨j,j1,j2,rfl⟩:=(mem_seg hb).1 hy9
   rcases h3 with h3 | h3
   · omega
   · have k1:κ (Go.Gm.nth l i)≤κ (Go.Gm.nth l (start - 1)):=by
       rcases Nat.lt_or_ge i (start - 1) with h | h
       · exact Int.le_of_lt (hx' i (start - 1) i1 h (by omega))
       · rw [show i=start - 1 by omega];exact Int.le_refl _
     have k2:κ (Go.Gm.nth l (mid+m - start))≤κ (Go.Gm.nth l j):=by
       rcases Nat.lt_or_ge (mid+m - start) j with h | h
       · exact Int.le_of_lt (hy' _ j (by omega) h j2)
       · rw [show j=mid+m - start by omega];exact Int.le_refl _
     omega
 · obtain ⟨i,i1,i2,rfl⟩:=(mem_seg (by omega)).1 hx9
   obtain ⟨j,j1,j2,rfl⟩:=(mem_seg (by omega)).1 hy9
   rcases h4 with h4 | h4
   · omega
   · have k1:κ (Go.Gm.nth l i)≤κ (Go.Gm.nth l (mid+m - 1 - start)):=by
       rcases Nat.lt_or_ge i (mid+m - 1 - start) with h | h
       · exact Int.le_of_lt (hy' i _ i1 h (by omega))
       · rw [show i=mid+m - 1 - start by omega];exact Int.le_refl _
     have k2:κ (Go.Gm.nth l start)≤κ (Go.Gm.nth l j):=by
       rcases Nat.lt_or_ge start j with h | h
       · exact Int.le_of_lt (hx' start j (by omega) h j2)
       · rw [show j=start by omega];exact Int.le_refl _
     omega
def swpB (l:List α) (a b n:Nat):List α:=l.take a++(seg l b (b+n)++(seg l (a+n) b++(seg l a (a+n)++l.drop (b+n))))
theorem swpB_app {p x w y s:List α} {a b n:Nat} (ha:a=p.length) (hn:n=x.length) (hb:b=p.length+x.length+w.length) (hy:y.length=n):swpB (p++(x++(w++(y++s)))) a b n=p++(y++(w++(x++s))):=by
 have h1:seg (p++(x++(w++(y++s)))) b (b+n)=y:=by
   rw [← List.append_assoc p x,← List.append_assoc (p++x) w]
   exact seg_app (by simp only [List.length_append];omega) (by simp only [List.length_append];omega)
 have h2:seg (p++(x++(w++(y++s)))) (a+n) b=w:=by
   rw [← List.append_assoc p x]
   exact seg_app (by simp only [List.length_append];omega) (by simp only [List.length_append];omega)
 have h3:seg (p++(x++(w++(y++s)))) a (a+n)=x:=seg_app ha (by omega)
 have h4:(p++(x++(w++(y++s)))).drop (b+n)=s:=by
   rw [← List.append_assoc p x,← List.append_assoc (p++x) w,← List.append_assoc (p++x++w) y]
   exact drop_app (by simp only [List.length_append];omega)
 unfold swpB
 rw [take_app ha,h1,h2,h3,h4]
theorem rot_gt {p x1 x2 y s:List α} (h:x1.length=y.length):rotSeg (swpB (p++(x1++(x2++(y++s)))) p.length (p.length+x1.length+x2.length) y.length) (p.length+y.length) (p.length+x1.length+x2.length) (p.length+x1.length+x2.length+y.length)=rotSeg (p++(x1++(x2++(y++s)))) p.length (p.length+x1.length+x2.length) (p.length+x1.length+x2.length+y.length):=by
 rw [swpB_app rfl h.symm rfl rfl]
 have e1:=rotSeg_app (p:=p++y) (x:=x2) (y:=x1) (s:=s) (a:=p.length+y.length) (m:=p.length+x1.length+x2.length) (b:=p.length+x1.length+x2.length+y.length) (by rw [List.length_append]) (by rw [List.length_append];omega) (by rw [List.length_append];omega)
 have e2:=rotSeg_app (p:=p) (x:=x1++x2) (y:=y) (s:=s) (a:=p.length) (m:=p.length+x1.length+x2.length) (b:=p.length+x1.length+x2.length+y.length) rfl (by rw [List.length_append];omega) (by rw [List.length_append];omega)
 simp only [List.append_assoc] at e1 e2
 rw [e1,e2]
theorem rot_lt {p x y1 y2 s:List α} (h:x.length=y2.length):rotSeg (swpB (p++(x++(y1++(y2++s)))) p.length (p.length+x.length+y1.length) x.length) p.length (p.length+x.length) (p.length+x.length+y1.length)=rotSeg (p++(x++(y1++(y2++s)))) p.length (p.length+x.length) (p.length+x.length+y1.length+y2.length):=by
 rw [swpB_app rfl rfl rfl h.symm]
 have e1:=rotSeg_app (p:=p) (x:=y2) (y:=y1) (s:=x++s) (a:=p.length) (m:=p.length+x.length) (b:=p.length+x.length+y1.length) rfl (by omega) (by omega)
 have e2:=rotSeg_app (p:=p) (x:=x) (y:=y1++y2) (s:=s) (a:=p.length) (m:=p.length+x.length) (b:=p.length+x.length+y1.length+y2.length) rfl rfl (by rw [List.length_append];omega)
 simp only [List.append_assoc] at e1 e2
 rw [e1,e2]
theorem rot_eq {p x y s:List α} (h:x.length=y.length):swpB (p++(x++(y++s))) p.length (p.length+x.length) x.length=rotSeg (p++(x++(y++s))) p.length (p.length+x.length) (p.length+x.length+y.length):=by
 have e1:=swpB_app (p:=p) (x:=x) (w:=[]) (y:=y) (s:=s) (a:=p.length) (b:=p.length+x.length) (n:=x.length) rfl rfl (by simp) h.symm
 rw [rotSeg_app rfl rfl rfl]
 simpa using e1
theorem seg_unl {l:List α} (h:Unl κ l) (a b:Nat):Unl κ (seg l a b):=h.sublist ((List.drop_sublist _ _).trans (List.take_sublist _ _))
theorem mul_le_next {t u bs:Nat} (h:t*bs+bs≤u*bs+bs) (hb:0<bs):t≤u:=by
 apply Decidable.byContradiction
 intro hn
 have h1:u+1≤t:=by omega
 have h2:=Nat.mul_le_mul_right bs h1
 rw [Nat.succ_mul] at h2
 omega
theorem lt_next {t u bs:Nat} (h:u*bs<t*bs+bs):u≤t:=by
 apply Decidable.byContradiction
 intro hn
 have h2:=Nat.mul_le_mul_right bs (show t+1≤u by omega)
 rw [Nat.succ_mul] at h2
 omega
theorem blkL_next {l:List α} {bs t:Nat} (hb:0<bs) (h:BlkL κ l bs (t*bs)) (hn:t*bs+bs≤l.length) (hu:Unl κ l):BlkL κ (sortSeg κ l (t*bs) (t*bs+bs)) bs (t*bs+bs):=fun u hub=>by
 have hut:=mul_le_next hub hb
 rcases Nat.lt_or_eq_of_le hut with h1 | h1
 · have h2:=Nat.mul_le_mul_right bs (show u+1≤t from h1)
   rw [Nat.succ_mul] at h2
   rw [seg_sort_left hn (by omega) h2]
   exact h u h2
 · subst h1
   rw [seg_sort_in (by omega) hn]
   exact sortZ_rise (seg_unl hu _ _)
theorem blk_last {l:List α} {bs t:Nat} (hb:0<bs) (h:BlkL κ l bs (t*bs)) (ht:t*bs≤l.length) (hn:l.length<t*bs+bs) (hu:Unl κ l):BlkR κ (sortSeg κ l (t*bs) l.length) bs 0:=fun u _ hul=>by
 have hlen:=sortSeg_len (κ:=κ) (l:=l) ht
 rw [hlen] at hul ⊢
 have hut:u≤t:=lt_next (bs:=bs) (by omega)
 rcases Nat.lt_or_eq_of_le hut with h1 | h1
 · have h2:=Nat.mul_le_mul_right bs (show u+1≤t from h1)
   rw [Nat.succ_mul] at h2
   rw [Nat.min_eq_left (by omega),seg_sort_left (Nat.le_refl _) ht h2]
   exact h u h2
 · subst h1
   rw [Nat.min_eq_right (by omega),seg_sort_in ht (Nat.le_refl _)]
   exact sortZ_rise (seg_unl hu _ _)
theorem blkR_right {l:List α} {bs a b:Nat} (hab:a≤b) (hb:b≤l.length) (h:BlkR κ l bs a):BlkR κ (sortSeg κ l a b) bs b:=fun u h1 h2=>by
 have hlen:=sortSeg_len (κ:=κ) (l:=l) hab
 rw [hlen] at h2 ⊢
 rw [seg_sort_right hb hab h1]
 exact h u (by omega) h2
theorem blk_tail {l:List α} {bs t:Nat} (hb:0<bs) (h:BlkL κ l (2*bs) (t*(2*bs))) (hr:BlkR κ l bs (t*(2*bs))) (hn:l.length≤t*(2*bs)+bs):BlkR κ l (2*bs) 0:=fun u _ hul=>by
 have hut:u≤t:=lt_next (bs:=2*bs) (by omega)
 rcases Nat.lt_or_eq_of_le hut with h1 | h1
 · have h2:=Nat.mul_le_mul_right (2*bs) (show u+1≤t from h1)
   rw [Nat.succ_mul] at h2
   by_cases h3:u*(2*bs)+2*bs≤l.length
   · rw [Nat.min_eq_left h3];exact h u h2
   · have h4:=h u h2
     rw [Nat.min_eq_right (by omega)]
     have e:seg l (u*(2*bs)) (u*(2*bs)+2*bs)=seg l (u*(2*bs)) l.length:=by
       unfold seg
       rw [List.take_of_length_le (by omega),List.take_length]
     rwa [e] at h4
 · subst h1
   have h4:=hr (2*u) (by rw [Nat.mul_assoc,Nat.mul_left_comm];exact Nat.le_refl _) (by rw [show 2*u*bs=u*(2*bs) by rw [Nat.mul_assoc,Nat.mul_left_comm]];exact hul)
   rw [show 2*u*bs=u*(2*bs) by rw [Nat.mul_assoc,Nat.mul_left_comm],Nat.min_eq_right hn] at h4
   rw [Nat.min_eq_right (by omega)]
   exact h4
end
section
variable {α:Type} {κ:α→Int}
theorem seg_take {l:List α} {a b n:Nat} (h:a+n≤b):(seg l a b).take n=seg l a (a+n):=by
 unfold seg
 rw [List.take_drop,List.take_take,Nat.min_eq_left h]
theorem seg_drop {l:List α} {a b n:Nat} : (seg l a b).drop n=seg l (a+n) b:=by
 unfold seg
 rw [List.drop_drop]
theorem seg_nil {l:List α} {a:Nat} : seg l a a = []:=by
 unfold seg
 exact List.drop_eq_nil_of_le (by rw [List.length_take];omega)
theorem swpB_len {l:List α} {a b n:Nat} (h1:a+n≤b) (h2:b+n≤l.length):(swpB l a b n).length=l.length:=by
 unfold swpB
 rw [List.length_append,List.length_append,List.length_append,List.length_append,seg_len (by omega),seg_len (by omega),seg_len (by omega),List.length_take,List.length_drop];omega
theorem cut4 {l:List α} {a b c d:Nat} (h1:a≤b) (h2:b≤c) (h3:c≤d):l=l.take a++(seg l a b++(seg l b c++(seg l c d++l.drop d))):=by
 have e:=seg_all (l:=l) (a:=a) (b:=d) (by omega)
 rw [seg_split (l:=l) (a:=a) (m:=b) (b:=d) h1 (by omega),seg_split (l:=l) (a:=b) (m:=c) (b:=d) h2 h3] at e
 simpa only [List.append_assoc] using e.symm
theorem rot_gt' {l:List α} {s m e j:Nat} (h1:s+j≤m) (h2:e=m+j) (h3:e≤l.length):rotSeg (swpB l s m j) (s+j) m e=rotSeg l s m e:=by
 have hc:=cut4 (l:=l) (a:=s) (b:=s+j) (c:=m) (d:=e) (by omega) h1 (by omega)
 have e0:(l.take s).length=s:=by rw [List.length_take];omega
 have e1:(seg l s (s+j)).length=j:=by rw [seg_len (by omega)];omega
 have e2:(seg l (s+j) m).length=m - (s+j):=seg_len (by omega)
 have e3:(seg l m e).length=j:=by rw [seg_len h3];omega
 have h:=rot_gt (p:=l.take s) (x1:=seg l s (s+j)) (x2:=seg l (s+j) m) (y:=seg l m e) (s:=l.drop e) (by rw [e1,e3])
 rw [← hc,e0,e1,e2,e3,show s+j+(m - (s+j))=m by omega,show m+j=e by omega] at h
 exact h
theorem rot_lt' {l:List α} {s m e i:Nat} (h0:m=s+i) (h1:m+i≤e) (h3:e≤l.length):rotSeg (swpB l s (e - i) i) s m (e - i)=rotSeg l s m e:=by
 have hc:=cut4 (l:=l) (a:=s) (b:=m) (c:=e - i) (d:=e) (by omega) (by omega) (by omega)
 have e0:(l.take s).length=s:=by rw [List.length_take];omega
 have e1:(seg l s m).length=i:=by rw [seg_len (by omega)];omega
 have e2:(seg l m (e - i)).length=e - i - m:=seg_len (by omega)
 have e3:(seg l (e - i) e).length=i:=by rw [seg_len h3];omega
 have h:=rot_lt (p:=l.take s) (x:=seg l s m) (y1:=seg l m (e - i)) (y2:=seg l (e - i) e) (s:=l.drop e) (by rw [e1,e3])
 rw [← hc,e0,e1,e2,e3,show s+i+(e - i - m)=e - i by omega,show s+i=m by omega,show e - i+i=e by omega] at h
 exact h
theorem rot_eq' {l:List α} {s m e i:Nat} (h0:m=s+i) (h1:e=m+i) (h3:e≤l.length):swpB l s m i=rotSeg l s m e:=by
 have hc:l=l.take s++(seg l s m++(seg l m e++l.drop e)):=by
   have:=cut4 (l:=l) (a:=s) (b:=m) (c:=m) (d:=e) (by omega) (by omega) (by omega)
   rwa [seg_nil,List.nil_append] at this
 have e0:(l.take s).length=s:=by rw [List.length_take];omega
 have e1:(seg l s m).length=i:=by rw [seg_len (by omega)];omega
 have e3:(seg l m e).length=i:=by rw [seg_len h3];omega
 have h:=rot_eq (p:=l.take s) (x:=seg l s m) (y:=seg l m e) (s:=l.drop e) (by rw [e1,e3])
 rw [← hc,e0,e1,e3,show s+i=m by omega,show m+i=e by omega] at h
 exact h
theorem rot_len {l:List α} {a m b:Nat} (h1:a≤m) (h2:m≤b) (h3:b≤l.length):(rotSeg l a m b).length=l.length:=by
 unfold rotSeg
 rw [List.length_append,List.length_append,List.length_append,seg_len h3,seg_len (by omega),List.length_take,List.length_drop];omega
theorem rot_none {l:List α} {a m b:Nat} (h1:a≤m) (h2:m≤b) (h:a=m∨m=b):rotSeg l a m b=l:=by
 unfold rotSeg
 rcases h with h | h
 · subst h;rw [seg_nil,List.nil_append];exact seg_all h2
 · subst h;rw [seg_nil,List.nil_append];exact seg_all h1
theorem sortSeg_rise {l:List α} {a b:Nat} (h:a≤b) (hr:RiseK κ (seg l a b)):sortSeg κ l a b=l:=by
 unfold sortSeg
 rw [← sortZ_eq (List.Perm.refl _) hr]
 exact seg_all h
theorem sortSeg_unl {l:List α} {a b:Nat} (h:a≤b) (hu:Unl κ l):Unl κ (sortSeg κ l a b):=hu.perm (sortSeg_perm h).symm
theorem rot_perm {l:List α} {a m b:Nat} (h1:a≤m) (h2:m≤b):(rotSeg l a m b).Perm l:=by
 unfold rotSeg
 conv=>rhs;rw [← seg_all (l:=l) (a:=a) (b:=b) (by omega),seg_split (l:=l) h1 h2]
 refine List.Perm.append_left _ ?_
 rw [← List.append_assoc]
 exact List.Perm.append_right _ List.perm_append_comm
theorem blkR_two {l:List α} {bs q t:Nat} (hb:0<bs) (ht:q=t*(2*bs)) (h:BlkR κ l bs q) (hn:q+2*bs≤l.length):RiseK κ (seg l q (q+bs))∧RiseK κ (seg l (q+bs) (q+2*bs)):=by
 have e1:2*t*bs=q:=by rw [ht,Nat.mul_assoc,Nat.mul_left_comm]
 have e2:(2*t+1)*bs=q+bs:=by rw [Nat.succ_mul,e1]
 have h1:=h (2*t) (by omega) (by omega)
 have h2:=h (2*t+1) (by omega) (by omega)
 rw [e1,Nat.min_eq_left (by omega)] at h1
 rw [e2,Nat.min_eq_left (by omega),show q+bs+bs=q+2*bs by omega] at h2
 exact ⟨h1,h2⟩
theorem blkR_twoE {l:List α} {bs q t:Nat} (hb:0<bs) (ht:q=t*(2*bs)) (h:BlkR κ l bs q) (hn:q+bs<l.length) (hn2:l.length≤q+2*bs):RiseK κ (seg l q (q+bs))∧RiseK κ (seg l (q+bs) l.length):=by
 have e1:2*t*bs=q:=by rw [ht,Nat.mul_assoc,Nat.mul_left_comm]
 have e2:(2*t+1)*bs=q+bs:=by rw [Nat.succ_mul,e1]
 have h1:=h (2*t) (by omega) (by omega)
 have h2:=h (2*t+1) (by omega) (by omega)
 rw [e1,Nat.min_eq_left (by omega)] at h1
 rw [e2,Nat.min_eq_right (by omega)] at h2
 exact ⟨h1,h2⟩
end
section
variable {α:Type} [Inhabited α] {κ:α→Int}
theorem nth_app {a b:List α} {k:Nat} : Go.Gm.nth (a++b) k=if k<a.length then Go.Gm.nth a k else Go.Gm.nth b (k - a.length):=by
 unfold Go.Gm.nth
 split
 · rename_i h;simp [List.getD_eq_getElem?_getD,List.getElem?_append_left h]
 · rename_i h;simp [List.getD_eq_getElem?_getD,List.getElem?_append_right (Nat.le_of_not_lt h)]
theorem nth_cons {x:α} {l:List α} {k:Nat} : Go.Gm.nth (x :: l) k=if k=0 then x else Go.Gm.nth l (k - 1):=by
 unfold Go.Gm.nth
 cases k with
 | zero=>rfl
 | succ k=>rfl
theorem nth_tk {l:List α} {n k:Nat} (h:k<n):Go.Gm.nth (l.take n) k=Go.Gm.nth l k:=by
 unfold Go.Gm.nth;simp [List.getD_eq_getElem?_getD,List.getElem?_take,h]
theorem nth_dp {l:List α} {n k:Nat} : Go.Gm.nth (l.drop n) k=Go.Gm.nth l (n+k):=by
 unfold Go.Gm.nth;simp [List.getD_eq_getElem?_getD,List.getElem?_drop]
theorem nth_sg {l:List α} {a b k:Nat} (h:a+k<b):Go.Gm.nth (seg l a b) k=Go.Gm.nth l (a+k):=by
 unfold seg;rw [nth_dp,nth_tk h]
theorem seg_cons {l:List α} {a b:Nat} (h:a<b) (hb:b≤l.length):seg l a b=Go.Gm.nth l a :: seg l (a+1) b:=by
 unfold seg
 rw [List.drop_eq_getElem_cons (by rw [List.length_take];omega),nth_eq (by omega),List.getElem_take]
theorem seg_snoc {l:List α} {a b:Nat} (h:a≤b) (hb:b<l.length):seg l a (b+1)=seg l a b ++ [Go.Gm.nth l b]:=by
 rw [seg_split (m:=b) h (by omega),seg_cons (a:=b) (by omega) (by omega),seg_nil]
def swp (l:List α) (i j:Nat):List α:=(l.set i (Go.Gm.nth l j)).set j (Go.Gm.nth l i)
theorem swp_len {l:List α} {i j:Nat} : (swp l i j).length=l.length:=by unfold swp;simp
theorem nth_sets {l:List α} {i k:Nat} {x:α} (h:i<l.length):Go.Gm.nth (l.set i x) k=if k=i then x else Go.Gm.nth l k:=by
 unfold Go.Gm.nth
 simp only [List.getD_eq_getElem?_getD,List.getElem?_set]
 by_cases e:i=k
 · subst e;simp [h]
 · simp [e,Ne.symm e]
theorem nth_swp {l:List α} {i j k:Nat} (hi:i<l.length) (hj:j<l.length):Go.Gm.nth (swp l i j) k=if k=j then Go.Gm.nth l i else if k=i then Go.Gm.nth l j else Go.Gm.nth l k:=by
 unfold swp
 rw [nth_sets (by simpa using hj),nth_sets hi]
def mvDn (l:List α) (j i:Nat):List α:=l.take j++Go.Gm.nth l i :: (seg l j i++l.drop (i+1))
theorem mvDn_len {l:List α} {j i:Nat} (hji:j≤i) (hi:i<l.length):(mvDn l j i).length=l.length:=by
 unfold mvDn
 rw [List.length_append,List.length_cons,List.length_append,seg_len (by omega),List.length_take,List.length_drop];omega
theorem nth_mvDn {l:List α} {j i k:Nat} (hji:j≤i) (hi:i<l.length):Go.Gm.nth (mvDn l j i) k=if k=j then Go.Gm.nth l i else if j<k∧k≤i then Go.Gm.nth l (k - 1) else Go.Gm.nth l k:=by
 unfold mvDn
 have h1:(l.take j).length=j:=by rw [List.length_take];omega
 have h2:(seg l j i).length=i - j:=seg_len (by omega)
 rw [nth_app,nth_cons,nth_app,h1,h2]
 by_cases c1:k<j
 · rw [if_pos c1,if_neg (by omega),if_neg (by omega),nth_tk c1]
 · rw [if_neg c1]
   by_cases c2:k=j
   · rw [if_pos (by omega),if_pos c2]
   · rw [if_neg (by omega),if_neg c2]
     by_cases c3:k≤i
     · rw [if_pos (by omega),if_pos (by omega),nth_sg (by omega)];congr 1;omega
     · rw [if_neg (by omega),if_neg (by omega),nth_dp];congr 1;omega
theorem mvDn_self {l:List α} {i:Nat} (hi:i<l.length):mvDn l i i=l:=
 list_same (mvDn_len (Nat.le_refl _) hi) fun k _=>by
   rw [nth_mvDn (Nat.le_refl _) hi]
   split
   · rename_i h;rw [h]
   · rw [if_neg (by omega)]
theorem mvDn_step {l:List α} {j i:Nat} (h0:0<j) (hji:j≤i) (hi:i<l.length):swp (mvDn l j i) j (j - 1)=mvDn l (j - 1) i:=
 list_same (by rw [swp_len,mvDn_len hji hi,mvDn_len (by omega) hi]) fun k _=>by
   rw [nth_swp (by rw [mvDn_len hji hi];omega) (by rw [mvDn_len hji hi];omega),nth_mvDn hji hi,nth_mvDn hji hi,nth_mvDn hji hi,nth_mvDn (by omega) hi]
   by_cases c1:k=j - 1
   · rw [if_pos c1,if_pos c1,if_pos rfl]
   · rw [if_neg c1,if_neg c1]
     by_cases c2:k=j
     · rw [if_pos c2,if_neg (by omega),if_neg (by omega),if_pos (by omega)];congr 1;omega
     · rw [if_neg c2,if_neg c2]
       by_cases c3:j<k∧k≤i
       · rw [if_pos c3,if_pos (by omega)]
       · rw [if_neg c3,if_neg (by omega)]
def mvUp (l:List α) (a k:Nat):List α:=l.take a++(seg l (a+1) (k+1)++Go.Gm.nth l a :: l.drop (k+1))
theorem mvUp_len {l:List α} {a k:Nat} (hak:a≤k) (hk:k<l.length):(mvUp l a k).length=l.length:=by
 unfold mvUp
 rw [List.length_append,List.length_append,List.length_cons,seg_len (by omega),List.length_take,List.length_drop];omega
theorem nth_mvUp {l:List α} {a k q:Nat} (hak:a≤k) (hk:k<l.length):Go.Gm.nth (mvUp l a k) q=if q=k then Go.Gm.nth l a else if a≤q∧q<k then Go.Gm.nth l (q+1) else Go.Gm.nth l q:=by
 unfold mvUp
 have h1:(l.take a).length=a:=by rw [List.length_take];omega
 have h2:(seg l (a+1) (k+1)).length=k - a:=by rw [seg_len (by omega)];omega
 rw [nth_app,nth_app,nth_cons,h1,h2]
 by_cases c1:q<a
 · rw [if_pos c1,if_neg (by omega),if_neg (by omega),nth_tk c1]
 · rw [if_neg c1]
   by_cases c2:q<k
   · rw [if_pos (by omega),if_neg (by omega),if_pos (by omega),nth_sg (by omega)];congr 1;omega
   · rw [if_neg (by omega)]
     by_cases c3:q=k
     · rw [if_pos (by omega),if_pos c3]
     · rw [if_neg (by omega),if_neg c3,if_neg (by omega),nth_dp];congr 1;omega
theorem mvUp_self {l:List α} {a:Nat} (ha:a<l.length):mvUp l a a=l:=
 list_same (mvUp_len (Nat.le_refl _) ha) fun q _=>by
   rw [nth_mvUp (Nat.le_refl _) ha]
   split
   · rename_i h;rw [h]
   · rw [if_neg (by omega)]
theorem mvUp_step {l:List α} {a k:Nat} (hak:a≤k) (hk:k+1<l.length):swp (mvUp l a k) k (k+1)=mvUp l a (k+1):=
 list_same (by rw [swp_len,mvUp_len hak (by omega),mvUp_len (by omega) hk]) fun q _=>by
   rw [nth_swp (by rw [mvUp_len hak (by omega)];omega) (by rw [mvUp_len hak (by omega)];omega),nth_mvUp hak (by omega),nth_mvUp hak (by omega),nth_mvUp hak (by omega),nth_mvUp (by omega) hk]
   by_cases c1:q=k+1
   · rw [if_pos c1,if_pos c1,if_pos rfl]
   · rw [if_neg c1,if_neg c1]
     by_cases c2:q=k
     · rw [if_pos c2,if_neg (by omega),if_neg (by omega),if_pos (by omega),c2]
     · rw [if_neg c2,if_neg c2]
       by_cases c3:a≤q∧q<k
       · rw [if_pos c3,if_pos (by omega)]
       · rw [if_neg c3,if_neg (by omega)]
theorem nth_swpB {l:List α} {a b n k:Nat} (h1:a+n≤b) (h2:b+n≤l.length):Go.Gm.nth (swpB l a b n) k=if a≤k∧k<a+n then Go.Gm.nth l (b+(k - a)) else if b≤k∧k<b+n then Go.Gm.nth l (a+(k - b)) else Go.Gm.nth l k:=by
 unfold swpB
 have e1:(l.take a).length=a:=by rw [List.length_take];omega
 have e2:(seg l b (b+n)).length=n:=by rw [seg_len (by omega)];omega
 have e3:(seg l (a+n) b).length=b - (a+n):=seg_len (by omega)
 have e4:(seg l a (a+n)).length=n:=by rw [seg_len (by omega)];omega
 rw [nth_app,nth_app,nth_app,nth_app,e1,e2,e3,e4]
 by_cases c1:k<a
 · rw [if_pos c1,if_neg (by omega),if_neg (by omega),nth_tk c1]
 · rw [if_neg c1]
   by_cases c2:k<a+n
   · rw [if_pos (show k - a<n by omega),if_pos (show a≤k∧k<a+n by omega),nth_sg (by omega)]
   · rw [if_neg (show ¬ (k - a<n) by omega),if_neg (show ¬ (a≤k∧k<a+n) by omega)]
     by_cases c3:k<b
     · rw [if_pos (show k - a - n<b - (a+n) by omega),if_neg (show ¬ (b≤k∧k<b+n) by omega),nth_sg (by omega)];congr 1;omega
     · rw [if_neg (show ¬ (k - a - n<b - (a+n)) by omega)]
       by_cases c4:k<b+n
       · rw [if_pos (show k - a - n - (b - (a+n))<n by omega),if_pos (show b≤k∧k<b+n by omega),nth_sg (by omega)];congr 1;omega
       · rw [if_neg (show ¬ (k - a - n - (b - (a+n))<n) by omega),if_neg (show ¬ (b≤k∧k<b+n) by omega),nth_dp];congr 1;omega
theorem swpB_zero {l:List α} {a b:Nat} (h1:a≤b) (h2:b≤l.length):swpB l a b 0=l:=
 list_same (swpB_len h1 h2) fun k _=>by rw [nth_swpB h1 h2,if_neg (by omega),if_neg (by omega)]
theorem swpB_step {l:List α} {a b n i:Nat} (hi:i<n) (h1:a+n≤b) (h2:b+n≤l.length):swp (swpB l a b i) (a+i) (b+i)=swpB l a b (i+1):=by
 have hl:(swpB l a b i).length=l.length:=swpB_len (by omega) (by omega)
 refine list_same (by rw [swp_len,hl,swpB_len (by omega) (by omega)]) fun k _=>?_
 rw [nth_swp (by omega) (by omega),nth_swpB (by omega) (by omega),nth_swpB (by omega) (by omega),nth_swpB (by omega) (by omega),nth_swpB (n:=i+1) (by omega) (by omega)]
 by_cases c1:k=b+i
 · rw [if_pos c1,if_neg (show ¬ (a≤a+i∧a+i<a+i) by omega),if_neg (show ¬ (b≤a+i∧a+i<b+i) by omega),if_neg (show ¬ (a≤k∧k<a+(i+1)) by omega),if_pos (show b≤k∧k<b+(i+1) by omega)];congr 1;omega
 · rw [if_neg c1]
   by_cases c2:k=a+i
   · rw [if_pos c2,if_neg (show ¬ (a≤b+i∧b+i<a+i) by omega),if_neg (show ¬ (b≤b+i∧b+i<b+i) by omega),if_pos (show a≤k∧k<a+(i+1) by omega)];congr 1;omega
   · rw [if_neg c2]
     by_cases c3:a≤k∧k<a+i
     · rw [if_pos c3,if_pos (show a≤k∧k<a+(i+1) by omega)]
     · by_cases c4:b≤k∧k<b+i
       · rw [if_neg c3,if_pos c4,if_neg (show ¬ (a≤k∧k<a+(i+1)) by omega),if_pos (show b≤k∧k<b+(i+1) by omega)]
       · rw [if_neg c3,if_neg c4,if_neg (show ¬ (a≤k∧k<a+(i+1)) by omega),if_neg (show ¬ (b≤k∧k<b+(i+1)) by omega)]
theorem ins_round {l l0:List α} {a i j:Nat} (haj:a≤j) (hji:j≤i) (hil:i<l.length) (hu:Unl κ (seg l a (i+1))) (hl0:l0=sortSeg κ l a i)
   (h1:j=a∨κ (Go.Gm.nth l0 (j - 1))<κ (Go.Gm.nth l0 i)) (h2:∀ k,j≤k→k<i→κ (Go.Gm.nth l0 i)<κ (Go.Gm.nth l0 k)):mvDn l0 j i=sortSeg κ l a (i+1):=by
 have hlen:l0.length=l.length:=by rw [hl0,sortSeg_len (by omega)]
 have hseg:seg l0 a i=sortZ κ (seg l a i):=by rw [hl0];exact seg_sort_in (by omega) (by omega)
 have hr:RiseK κ (seg l0 a i):=by
   rw [hseg]
   refine sortZ_rise ?_
   rw [seg_snoc (by omega) hil] at hu
   exact (List.pairwise_append.1 hu).1
 have hri:=(seg_idx (κ:=κ) (by omega)).1 hr
 have hx:Go.Gm.nth l0 i=Go.Gm.nth l i:=by
   have e:=seg_sort_right (κ:=κ) (l:=l) (a:=a) (b:=i) (c:=i) (d:=i+1) (by omega) (by omega) (Nat.le_refl _)
   rw [← hl0,seg_cons (l:=l0) (by omega) (by omega),seg_cons (l:=l) (by omega) (by omega)] at e
   exact (List.cons.inj e).1
 have ht:l0.take a=l.take a:=by
   have e:=seg_sort_left (κ:=κ) (l:=l) (a:=a) (b:=i) (c:=0) (d:=a) (by omega) (by omega) (Nat.le_refl _)
   rw [← hl0] at e
   simpa [seg] using e
 have hd:l0.drop (i+1)=l.drop (i+1):=by
   have e:=seg_sort_right (κ:=κ) (l:=l) (a:=a) (b:=i) (c:=i+1) (d:=l.length) (by omega) (by omega) (by omega)
   rw [← hl0] at e
   unfold seg at e
   rwa [List.take_of_length_le (by omega),List.take_length] at e
 have k1:(sortZ κ (seg l a i)).take (j - a)=seg l0 a j:=by rw [← hseg,seg_take (by omega)];congr 1;omega
 have k2:(sortZ κ (seg l a i)).drop (j - a)=seg l0 j i:=by rw [← hseg,seg_drop];congr 1;omega
 have e:=sortSeg_next (κ:=κ) (l:=l) (a:=a) (i:=i) (k:=j - a) (by omega) hil hu
   (by
     rw [k1,← nth_eq hil,← hx]
     intro z hz
     obtain ⟨q,q1,q2,rfl⟩:=(mem_seg (by omega)).1 hz
     rcases h1 with h1 | h1
     · omega
     · rcases Nat.lt_or_ge q (j - 1) with h | h
       · exact Int.lt_trans (hri q (j - 1) q1 h (by omega)) h1
       · rw [show q=j - 1 by omega];exact h1)
   (by
     rw [k2,← nth_eq hil,← hx]
     intro z hz
     obtain ⟨q,q1,q2,rfl⟩:=(mem_seg (by omega)).1 hz
     exact h2 q q1 q2)
 rw [← e,k1,k2,← nth_eq hil,← hx,← ht,← hd]
 unfold mvDn
 have hj:l0.take j=l0.take a++seg l0 a j:=by
   unfold seg
   have:=List.take_append_drop a (l0.take j)
   rw [List.take_take,Nat.min_eq_left haj] at this
   exact this.symm
 rw [hj]
 simp only [List.append_assoc]
theorem merge_one {l:List α} {a i b:Nat} (hai:a+1≤i) (hib:i≤b) (hb:b≤l.length) (hy:RiseK κ (seg l (a+1) b)) (h1:∀ k,a+1≤k→k<i→κ (Go.Gm.nth l k)<κ (Go.Gm.nth l a)) (h2:∀ k,i≤k→k<b→κ (Go.Gm.nth l a)<κ (Go.Gm.nth l k)):mvUp l a (i - 1)=sortSeg κ l a b:=by
 have e:=ins_rise (κ:=κ) (y:=seg l (a+1) b) (x:=Go.Gm.nth l a) (k:=i - (a+1)) hy
   (by
     rw [seg_take (by omega),show a+1+(i - (a+1))=i by omega]
     intro z hz
     obtain ⟨q,q1,q2,rfl⟩:=(mem_seg (by omega)).1 hz
     exact h1 q q1 q2)
   (by
     rw [seg_drop,show a+1+(i - (a+1))=i by omega]
     intro z hz
     obtain ⟨q,q1,q2,rfl⟩:=(mem_seg hb).1 hz
     exact h2 q q1 q2)
 rw [seg_take (by omega),seg_drop,show a+1+(i - (a+1))=i by omega,← seg_cons (by omega) hb] at e
 have hd:l.drop i=seg l i b++l.drop b:=drop_cut hib
 unfold sortSeg mvUp
 rw [← e,show i - 1+1=i by omega,hd]
 simp only [List.append_assoc,List.cons_append]
theorem merge_last {l:List α} {a i m:Nat} (hai:a≤i) (him:i≤m) (hm:m<l.length) (hy:RiseK κ (seg l a m)) (h1:∀ k,a≤k→k<i→κ (Go.Gm.nth l k)<κ (Go.Gm.nth l m)) (h2:∀ k,i≤k→k<m→κ (Go.Gm.nth l m)<κ (Go.Gm.nth l k)):mvDn l i m=sortSeg κ l a (m+1):=by
 have e:=ins_last (κ:=κ) (y:=seg l a m) (x:=Go.Gm.nth l m) (k:=i - a) hy
   (by
     rw [seg_take (by omega),show a+(i - a)=i by omega]
     intro z hz
     obtain ⟨q,q1,q2,rfl⟩:=(mem_seg (by omega)).1 hz
     exact h1 q q1 q2)
   (by
     rw [seg_drop,show a+(i - a)=i by omega]
     intro z hz
     obtain ⟨q,q1,q2,rfl⟩:=(mem_seg (by omega)).1 hz
     exact h2 q q1 q2)
 rw [seg_take (by omega),seg_drop,show a+(i - a)=i by omega,← seg_snoc (by omega) hm] at e
 have ht:l.take i=l.take a++seg l a i:=by
   unfold seg
   have:=List.take_append_drop a (l.take i)
   rw [List.take_take,Nat.min_eq_left hai] at this
   exact this.symm
 unfold sortSeg mvDn
 rw [← e,ht]
 simp only [List.append_assoc,List.cons_append]
theorem unl_gt {l:List α} (hu:Unl κ l) {i j:Nat} (hi:i<l.length) (hj:j<l.length) (hij:i≠j) (h:¬ κ (Go.Gm.nth l i)<κ (Go.Gm.nth l j)):κ (Go.Gm.nth l j)<κ (Go.Gm.nth l i):=by
 have hp:=List.pairwise_iff_getElem.1 hu
 rw [nth_eq hi,nth_eq hj] at *
 rcases Nat.lt_or_ge i j with h1 | h1
 · have:=hp i j hi hj h1;omega
 · have:=hp j i hj hi (by omega);omega
end
end Go.Proofs.YtcfgcpcakdknkaaGreat
