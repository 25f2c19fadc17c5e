/- Texts put together. No condition beyond those that each theorem says. -/
import Derived.Test.YtlkpllemoepamaaGreatJ0
import Derived.Test.YtlkpllemoepamaaGreatLibW
import Derived.Laws.BitsLemmas
import Derived.Test.YtlkpllemoepamaaGreatLibL
namespace Go.Proofs.YtlkpllemoepamaaGreat
open Go Go.Gm Tryz
set_option linter.unusedVariables false
set_option linter.unusedSimpArgs false
set_option maxHeartbeats 4000000
set_option maxRecDepth 8000
def Zun (x:Int):List PV:=[.int .u64 x]
def bitAt (ws:List Int) (j:Nat):Bool:=(Nn ws (j / 64)).toNat.testBit (j % 64)
def Zie (ws:List Int) (j:Nat):List Int:=ws.set (j / 64) (((Nn ws (j / 64)).toNat ^^^ 2 ^ (j % 64):Nat):Int)
def hasW (n:Nat) (ws:List Int) (i:Int):Bool:=(decide (0≤i) && decide (i<n)) && bitAt ws i.toNat
def Zr9 (n:Nat) (ws:List Int) (i:Int) (on:Bool):Bool:=(decide (0≤i) && decide (i<n)) && (hasW n ws i != on)
def setW (n:Nat) (ws:List Int) (i:Int) (on:Bool):List Int:=if Zr9 n ws i on then Zie ws i.toNat else ws
structure Zdn (n:Nat) (ws:List Int):Prop where
 hi:n≤65536
 len:ws.length=(n+63) / 64
 wd:∀ k,0≤Nn ws k∧Nn ws k<18446744073709551616
def Zrr (v wv:Value) (n:Nat) (ws:List Int):List RS:=[.pt (.val v) 274 [.pv (.int .i64 n),.pv (.is wv)],.ob (.val wv) (ZA 175 1 Zun ws)]
def Zhw (v:Value) (n:Nat) (ws:List Int):HP:=.ex fun wv:Value=>.and (Zdn n ws) (.star (Zrr v wv n ws))
theorem ZoD {v:Value} {n:Nat} {ws:List Int} {w:World} {f y:Ys} (h:(Zhw v n ws).p w f y):Zdn n ws ∧ ∃ b,v = .pointer (some ⟨b,0,none⟩):=by
 obtain ⟨_,hI,h⟩:=h
 exact ⟨hI,HP.star_pt h⟩
theorem shr6 (i:Int):i.fdiv (2 ^ min (6:Int).toNat (IntKind.bits .i64))=i / 64:=YaR i (by decide)
theorem and63 (i:Int) (h:0≤i∧i≤9223372036854775807):bits .and .i64 i 63=i % 64:=by
 obtain ⟨X,rfl⟩:=Yac h.1
 have h1:(BitVec.ofInt 64 (X:Int)).toNat=X:=by rw [YaI];omega
 have h2:(BitVec.ofInt 64 (63:Int)).toNat=2 ^ 6 - 1:=by decide
 show IntKind.wrap .i64 (((BitVec.ofInt 64 (X:Int) &&& BitVec.ofInt 64 63).toNat:Nat):Int)=_
 rw [Ybo,h1,h2,YaT,Zy ow]
 omega
theorem and1 (x:Int) (h:0≤x∧x<18446744073709551616):bits .and .u64 x 1=x % 2:=by
 obtain ⟨X,rfl⟩:=Yac h.1
 have h1:(BitVec.ofInt 64 (X:Int)).toNat=X:=by rw [YaI];omega
 have h2:(BitVec.ofInt 64 (1:Int)).toNat=2 ^ 1 - 1:=by decide
 show IntKind.wrap .u64 (((BitVec.ofInt 64 (X:Int) &&& BitVec.ofInt 64 1).toNat:Nat):Int)=_
 rw [Ybo,h1,h2,YaT,Zal ow]
 omega
theorem xor64 (x y:Nat) (hx:x<18446744073709551616) (hy:y<18446744073709551616):bits .xor .u64 (x:Int) (y:Int)=((x ^^^ y:Nat):Int):=by
 have h1:(BitVec.ofInt 64 (x:Int)).toNat=x:=by rw [YaI];omega
 have h2:(BitVec.ofInt 64 (y:Int)).toNat=y:=by rw [YaI];omega
 show IntKind.wrap .u64 (((BitVec.ofInt 64 (x:Int) ^^^ BitVec.ofInt 64 (y:Int)).toNat:Nat):Int)=_
 rw [BitVec.toNat_xor,h1,h2]
 exact Zal (by have:=Nat.xor_lt_two_pow (n:=64) hx hy;omega)
theorem ZtN {x:Int} (h:0≤x∧x<18446744073709551616) (i:Int) (hi:0≤i∧i≤9223372036854775807):decide (bits .and .u64 (x.fdiv (2 ^ min (IntKind.wrap .u64 (bits .and .i64 i 63)).toNat (IntKind.bits .u64))) 1=1)=x.toNat.testBit (i.toNat % 64):=by
 obtain ⟨X,rfl⟩:=Yac h.1
 obtain ⟨I,rfl⟩:=Yac hi.1
 rw [and63 _ hi,Zal ow,Yb,Yb]
 have e1:min ((I:Int) % 64).toNat (IntKind.bits .u64)=I % 64:=by simp only [IntKind.bits];omega
 rw [e1,YaR _ (by exact_mod_cast Yv _)]
 have e2:(X:Int) / 2 ^ (I % 64)=((X / 2 ^ (I % 64):Nat):Int):=by norm_cast
 have hle:X / 2 ^ (I % 64)≤X:=Nat.div_le_self _ _
 rw [e2,Nat.testBit_eq_decide_div_mod_eq]
 generalize X / 2 ^ (I % 64)=q at hle ⊢
 rw [and1 _ ow]
 exact decide_eq_decide.2 ow
theorem Zdn.at {n:Nat} {ws:List Int} (h:Zdn n ws) (i:Int) (h0:0≤i) (h1:i<n):0≤i / 64∧i / 64<ws.length:=by have:=h.len;omega
theorem u64_nonneg (x:Int):0≤IntKind.wrap .u64 x:=by rw [Zaf];omega
theorem and_iff {a b:Prop} [Decidable a] [Decidable b] (h:(decide a && decide b)=true):a∧b:=by simpa using h
theorem ZuJ (n:Nat) (p:PV):FnP prog 246 [.ref [.int .i64 n,p]] (.int .i64 n):=by
 refine FnP.mk func246 rfl ntmps246 rfl fun B a w F V hfr G=>Ya ?_
 refine rZ G (qI qZ) V [2,0] [0] fun G=>(Ya (Ya ?_))
 refine rZ G (qR rr (qf (Zb3 underlying229 .t) r1 qz qZ)) V [4,2,0] [0] fun G=>?_
 refine Zc G rfl (fun hc0=>?_) (fun hc0=>?_)
 ·simp at hc0
 refine Ye (Za (Ya (rZ G (qR rr (qf (ZC .t) r1 qz (qf (oG 0 .t) r1 qz (qf (oR false 1 .t) r1 qz (qO rr qZ))))) V [2] [0] fun G=>Yh ?_)))
 refine Zo hfr G rfl rfl rfl .refl
theorem ZnQ (n:Nat) (p:PV) (i:Int):FnP prog 225 [.ref [.int .i64 n,p],.int .i64 i] (.bool (decide (0≤i) && decide (i<n))):=by
 refine FnP.mk func225 rfl ntmps225 rfl fun B a w F V hfr G=>Ya ?_
 refine rZ G qB V [4,1,0] [0] fun G=>Ya ?_
 refine rZ G (qR rr (qf (Zbi .t qi) r1 qz (qR rr (qm rfl rfl rfl rfl (qm rfl rfl rfl rfl (qk rfl (fun h=>oP (ZuJ n p) func246 (Args.one (.w h))) r2 qz (qk rfl (fun h=>Zay (.w h) (.w h)) r3 qz (qf (ZD .t .t) r2 qz (qO rr qZ))))))))) V [4] [0] fun G=>Yh ?_
 refine Zo hfr G rfl rfl rfl .refl
theorem Int.toNat_ediv_64 {i:Int} (h:0≤i):(i / 64).toNat=i.toNat / 64:=by omega
theorem Zdz {a b:Prop} [Decidable a] [Decidable b] (h:¬ (a∧b)):(decide a && decide b)=false:=by rw [← YbY];exact YC h
theorem Zsx (n:Nat) (ws:List Int) (hI:Zdn n ws) (i:Int):FnP prog 202 [.ref [.int .i64 n,.sl Zun ws],.int .i64 i] (.bool (hasW n ws i)):=by
 refine FnP.mk func202 rfl ntmps202 rfl fun B a w F V hfr G=>Ya ?_
 refine rZ G qB V [4,1,0] [0] fun G=>Ya ?_
 refine rZ G (qR rr (qR rr (qf (oP (ZnQ n _ i) func225 (Args.two .t .t)) r2 qz (qR rr (qm rfl rfl rfl rfl (qk rfl (fun h=>ZC (.w h)) r2 qz (qk rfl (fun h=>oG 1 (.w h)) r2 qz (qk rfl (fun h=>oR false 1 (.w h)) r2 qz (qm rfl rfl rfl rfl (qk rfl (fun h=>Zcl (.w h) qi (by decide)) r2 qz (qk rfl (fun h=>o_indexAddr_sl (sz:=1) (.mk underlying272 kr) (by intro x;rfl) (.w h) (.w h) (by rw [shr6];exact (hI.at i (and_iff h).1 (and_iff h).2).1) (by rw [shr6];exact (hI.at i (and_iff h).1 (and_iff h).2).2)) r3 qz (qk rfl (fun h=>oR false 1 (.w h)) r2 qz (qm rfl rfl rfl rfl (qk rfl (fun h=>o_and (.w h) qi) r2 qz (qk rfl (fun h=>o_conv underlying162 kr (.w h)) r2 qz (qk rfl (fun h=>Zcl (.w h) (.w h) (u64_nonneg _)) r3 qz (qk rfl (fun h=>o_and (.w h) qi) r2 qz (qk rfl (fun h=>o_eql (.w h) qi) r2 qz (qf (ZD .t .t) r2 qz (qO rr qZ)))))))))))))))))))) V [4] [0] fun G=>Yh ?_
 refine Zo hfr G rfl rfl rfl (.bool (by unfold hasW bitAt;by_cases hb:0≤i∧i<n; (rw [shr6,ZtN (hI.wd _) i (by have:=hI.hi;omega),Int.toNat_ediv_64 hb.1]); (simp only [Zdz hb,Bool.false_and])))
def rowN (m:Int):Nat:=(if m<0 then 0 else if m > 65536 then 65536 else m).toNat
theorem Zhs (m:Int):rowN m≤65536:=by unfold rowN;split; (· omega);split <;> omega
theorem ZtV (m:Int):(if 65536<(if m<0 then 0 else m) then 65536 else if m<0 then 0 else m)=((rowN m:Nat):Int):=by unfold rowN;split <;> split <;> (try split) <;> omega
def ZhJ (m:Int):List Int:=List.replicate ((rowN m+63) / 64) 0
theorem Znm (k j:Nat):Nn (List.replicate k (0:Int)) j=0:=by
 by_cases h:j<k
 ·rw [nth_eq (by simpa using h)];simp
 ·unfold Nn;rw [YaJ,YbL (by simp;omega)];rfl
theorem Zk9 (m:Int):Zdn (rowN m) (ZhJ m):=⟨Zhs m,by simp [ZhJ],fun k=>by unfold ZhJ;rw [Znm];omega⟩
theorem Zq6 (m:Int):(IntKind.wrap .i64 (((rowN m:Nat):Int)+63)).fdiv (2 ^ min (6:Int).toNat (IntKind.bits .i64))=(((rowN m+63) / 64:Nat):Int):=by
 have:=Zhs m
 rw [shr6,Zy ow];omega
theorem ZrS (w:World) (yy:Ys):PVs (Zun 0) [.int .u64 0] w yy:=⟨⟨rfl,rfl,by simp [inR,IntKind.min,IntKind.max,IntKind.signed,IntKind.bits]⟩,tv⟩
theorem Zit (ws:List Int) (j:Nat):(Zie ws j).length=ws.length:=by simp [Zie]
theorem Zlc {ws:List Int} {i j:Nat} {c:Int} (h:j<ws.length):Nn (ws.set i c) j=if i=j then c else Nn ws j:=by
 rw [nth_eq (by simpa using h),nth_eq h,YbS]
theorem ZjF {ws:List Int} {j:Nat} (h:ws.length≤j):Nn ws j=0:=by unfold Nn;rw [YaJ,YbL h];rfl
theorem ZlO {x:Int} (h:0≤x∧x<18446744073709551616) (k:Nat) (hk:k<64):0≤(((x.toNat ^^^ 2 ^ k:Nat)):Int)∧(((x.toNat ^^^ 2 ^ k:Nat)):Int)<18446744073709551616:=by
 have h1:x.toNat<2 ^ 64:=by omega
 have h2:2 ^ k<2 ^ 64:=Nat.pow_lt_pow_right (by decide) hk
 have:=Nat.xor_lt_two_pow h1 h2
 omega
theorem Zdn.flip {n:Nat} {ws:List Int} (h:Zdn n ws) (j:Nat):Zdn n (Zie ws j):=by
 refine ⟨h.hi,by rw [Zit];exact h.len,fun k=>?_⟩
 by_cases hk:k<ws.length
 ·unfold Zie
  rw [Zlc hk]
  split
  ·exact ZlO (h.wd _) _ (Ybn _ (by decide))
  ·exact h.wd k
 ·rw [ZjF (by rw [Zit];omega)];omega
theorem Zdn.setW {n:Nat} {ws:List Int} (h:Zdn n ws) (i:Int) (on:Bool):Zdn n (setW n ws i on):=by
 unfold Go.Proofs.YtlkpllemoepamaaGreat.setW
 split
 ·exact h.flip _
 ·exact h
theorem Zot {x:Int} (h:0≤x∧x<18446744073709551616) (i:Int) (hi:0≤i∧i≤9223372036854775807):bits .xor .u64 x (IntKind.wrap .u64 (1*2 ^ min (IntKind.wrap .u64 (bits .and .i64 i 63)).toNat (IntKind.bits .u64)))=((x.toNat ^^^ 2 ^ (i.toNat % 64):Nat):Int):=by
 obtain ⟨X,rfl⟩:=Yac h.1
 obtain ⟨I,rfl⟩:=Yac hi.1
 rw [and63 _ hi,Zal (by omega:0≤((I:Int) % 64)∧(I:Int) % 64≤_),Yb,Yb]
 have e1:min ((I:Int) % 64).toNat (IntKind.bits .u64)=I % 64:=by simp only [IntKind.bits];omega
 have h2:2 ^ (I % 64)<2 ^ 64:=Nat.pow_lt_pow_right (by decide) (Ybn _ (by decide))
 have e2:(1:Int)*2 ^ (I % 64)=((2 ^ (I % 64):Nat):Int):=by rw [Int.one_mul];norm_cast
 rw [e1,e2]
 generalize 2 ^ (I % 64)=q at h2 ⊢
 rw [Zal ow,xor64 X q ow ow]
theorem ZuY (m:Int):FnG prog 162 1 [.int .i64 m] [.star []] (PV.ptr) (fun v=>[Zhw v (rowN m) (ZhJ m)]):=by
 refine FnG.mk func162 rfl ntmps162 rfl kr fun B F0 a w F V hG G=>?_
 have hr:=ZtV m
 refine Ya (rZ G (qC qZ) V [2,0] [1,0] fun G=>Ya ?_)
 refine Zf G (qR rr (qf (ZnR .t qi) r1 qz (qf (o_min .t qi) r1 qz (qO rr qZ)))) V [2,0] [1,0] rfl rfl fun a w F G=>?_
 rw [hr] at G
 refine Za (Ya (Zb G (qR rr (qR rr (qp r1 (qf (Zcl .t qi (by decide)) r1 qz (qf (ZaE (R:=Zun) (v:=0) (c:=(IntKind.wrap .i64 (((rowN m:Nat):Int)+63)).fdiv (2 ^ min (6:Int).toNat (IntKind.bits .i64))) (sz:=1) (bs:=8) (zs:=[.int .u64 0]) 101 underlying272 kr kr kr ZrS .t .t (by rw [Zq6];exact Yat _) (by have:=Zhs m;rw [Zq6];omega) (by have:=Zhs m;rw [Zq6];omega)) r2 qz (qf (oB [(0,.tmp 6),(1,.tmp 10)] [.int .i64 0,.slice none 0 0] [(0,1),(1,1)] (.one rfl .t one_int kr (.same rfl kr .nil))) r2 qz (qf (oX 102 .t) r1 qz (qO rr qZ)))))))) V [2] [102,101,1,0] (fun _=>rfl) (fun _=>rfl) fun τ a w F G=>?_))
 try dsimp only [RS.sub,SF.sub,CF.sub,csub,Anc.sub,List.map,Ze,xL,xM,Nat.reduceAdd,xD,xE,xT,xU,xC,xN,zCF] at G
 generalize τ 12=v12 at G
 generalize τ 10=v10 at G
 rw [Zq6,Yb] at G
 refine Za (Yh ?_)
 obtain ⟨b,rfl⟩:=G.shape 102 rfl
 obtain ⟨F,G⟩:=G.push 1 101 rfl rfl rfl kr
 obtain ⟨F,G⟩:=G.push 1 102 rfl rfl rfl kr
 have G:=G.turn 1 rfl (r':=RS.hp (Zhw (.pointer (some ⟨b,0,none⟩)) (rowN m) (ZhJ m))) (fun _ _ _ _ h=>⟨_,Zk9 m,h⟩)
 refine Z8 (h':=fun v=>Zhw v (rowN m) (ZhJ m)) hG G rfl (.tmp rfl .nil) (.one .ptr) rfl
theorem ZvB (b n:Nat) (ws:List Int) (i:Int) (on:Bool):FnG prog 222 1 [.is (.pointer (some ⟨b,0,none⟩)),.int .i64 i,.bool on] [Zhw (.pointer (some ⟨b,0,none⟩)) n ws] (.bool (Zr9 n ws i on)) (fun _=>[Zhw (.pointer (some ⟨b,0,none⟩)) n (setW n ws i on)]):=by
 refine FnG.mk func222 rfl ntmps222 rfl kr fun B F0 a w F V hG G=>?_
 obtain ⟨wv,G⟩:=G.open_ex 1 rfl
 obtain ⟨hI,G⟩:=G.open_and 1 rfl
 obtain ⟨F,G⟩:=G.peel 1 2 rfl rfl
 obtain ⟨F,G⟩:=G.peel 1 3 rfl rfl
 obtain ⟨F,G⟩:=G.nM [2,1,0] [3,2,0]
 refine Ya (rZ G qB V [6,2,1,0] [3,2,0] fun G=>(Ya (Ya ?_)))
 refine rZ G (qR rr (qR rr (qf (ZhF (cells:=[.pv _,.pv _]) 2 (ZnQ n _ i) (fun _ _ _ _ _ h=>h) rfl func225 rfl kr (Zab.two .is .t)) r2 r1 (qf (o_not .t) r1 qz (qR rr (qm rfl rfl rfl rfl (qm rfl rfl rfl rfl (qk rfl (fun h=>ZbN (cells:=[.pv _,.pv (.is wv)]) 2 3 1 (Zsx n ws hI i) (fun _ _ _ _ _ h=>h) rfl func202 rfl kr rfl rfl (Zab.two (.w h .is) (.w h))) r3 r2 (qm rfl rfl rfl rfl (qk rfl (fun h=>Zse underlying4 (.w h) (.w h)) r3 qz (qf (Zam .t .t) r2 qz qZ))))))))))) V [17,6,1,0] [3,2,0] fun G=>?_
 refine Zc G rfl (fun hc0=>?_) (fun hc0=>?_)
 ·have hs:Zr9 n ws i on=false:=by unfold Zr9;revert hc0;cases (decide (0≤i) && decide (i<n)) <;> cases hasW n ws i <;> cases on <;> simp
  have hg:setW n ws i on=ws:=by unfold setW;rw [hs];rfl
  refine Ya (rZ G qB V [6,1,0] [3,2,0] fun G=>(Yh (Zk ?_)))
  have G:=G.fresh 1 rfl
  obtain ⟨F,G⟩:=G.push 1 3 rfl rfl rfl kr
  obtain ⟨F,G⟩:=G.push 1 2 rfl rfl rfl kr
  have G:=G.turn 1 rfl (r':=RS.hp (Zhw (.pointer (some ⟨b,0,none⟩)) n (setW n ws i on))) (fun _ _ _ _ h=>⟨_,(hI.setW i on),(by rw [hg];exact h)⟩)
  refine Zac hG G rfl (.tmp rfl .nil) (.one (.bool hs.symm)) rfl
 have hs:Zr9 n ws i on=true:=by unfold Zr9;revert hc0;cases (decide (0≤i) && decide (i<n)) <;> cases hasW n ws i <;> cases on <;> simp
 have hg:setW n ws i on=Zie ws i.toNat:=by unfold setW;rw [hs];rfl
 have hb:0≤i∧i<n:=by
   have hs':=hs
   simp only [Zr9,Yx,Yq] at hs'
   exact hs'.1
 have hhi:=hI.hi
 have hq:=hI.at i hb.1 hb.2
 rw [← shr6] at hq
 have hq2:(i.fdiv (2 ^ min (6:Int).toNat (IntKind.bits .i64))).toNat<ws.length:=by omega
 refine Ye (Za (Ya (Zf G (qR rr (qf (o_nilCheck 2 .is (by rfl)) r1 r1 (qf (oF 1 2 .adr) r1 r1 (qa 2 r1 r1 (qR rr (qf (Zcl .t qi (by decide)) r1 qz (qf (o_indexAddr_row (sz:=1) 3 (.mk underlying272 kr) .is .t hq.1 hq.2 (by rfl)) r2 r1 (qf (Zv (ag:=false) (sz':=1) (sz:=1) 3 .t (by intro x;rfl) hq2 kr kr kr) r1 r1 (qR rr (qf (o_and .t qi) r1 qz (qf (o_conv underlying162 kr .t) r1 qz (qf (o_shl qi .t (u64_nonneg _)) r1 qz (qf (o_xor .t .t) r2 qz (qf (o_indexAddr_row (sz:=1) 3 (.mk underlying272 kr) .is .t hq.1 hq.2 (by rfl)) r2 r1 (qf (ZF (R:=Zun) (sz:=1) (v:=_) 3 .t (by intro x;rfl) hq2 .t rfl one_int kr) r2 r1 qZ))))))))))))))) V [6] [3,2,0] rfl rfl fun a w F G=>?_)))
 rw [Zot (hI.wd _) i ow,shr6,Int.toNat_ediv_64 hb.1] at G
 refine Za (Ya (rZ G qB V [6] [3,2,0] fun G=>Yh ?_))
 have G:=G.fresh 1 rfl
 obtain ⟨F,G⟩:=G.push 1 3 rfl rfl rfl kr
 obtain ⟨F,G⟩:=G.push 1 2 rfl rfl rfl kr
 have G:=G.turn 1 rfl (r':=RS.hp (Zhw (.pointer (some ⟨b,0,none⟩)) n (setW n ws i on))) (fun _ _ _ _ h=>⟨_,(hI.setW i on),(by rw [hg];exact h)⟩)
 refine Zac hG G rfl (.tmp rfl .nil) (.one (.bool hs.symm)) rfl
def places (n:Nat) (ws:List Int):List Int:=((List.range n).filter fun j=>bitAt ws j).map fun j:Nat=>(j:Int)
def ZuR (n:Nat) (ws:List Int):Prop:=∀ j,n≤j→bitAt ws j=false
def Up (n:Nat) (x:List Int):Prop:=x.Pairwise (· < ·) ∧ ∀ i ∈ x,0≤i∧i<n
structure Zec (n:Nat) (ws:List Int) (x:List Int):Prop where
 ok:Zdn n ws
 clean:ZuR n ws
 up:Up n x
 mem:∀ j:Nat,bitAt ws j=true ↔ (j:Int) ∈ x
theorem Zec.mk' {n:Nat} {ws x:List Int} (hok:Zdn n ws) (hc:ZuR n ws) (hu:Up n x) (h:∀ j:Nat,j<n→(bitAt ws j=true ↔ (j:Int) ∈ x)):Zec n ws x:=by
 refine ⟨hok,hc,hu,fun j=>?_⟩
 by_cases hj:j<n
 ·exact h j hj
 ·rw [hc j ow]
  constructor
  ·intro h;cases h
  ·intro hm;have:=hu.2 _ hm;omega
theorem Zec.in {n:Nat} {ws x:List Int} (h:Zec n ws x) (i:Int):hasW n ws i=decide (i ∈ x):=by
 unfold hasW
 by_cases hb:0≤i∧i<n
 ·have:=h.mem i.toNat
  rw [Yay hb.1] at this
  rw [show (decide (0≤i) && decide (i<(n:Int)))=true by simp [hb],Ybp]
  by_cases hm:i ∈ x
  ·rw [Yab hm,this.2 hm]
  ·rw [YC hm]
   cases e:bitAt ws i.toNat
   ·rfl
   ·exact absurd (this.1 e) hm
 ·rw [Zdz hb,Bool.false_and,Yaj,Yz]
  intro hm
  exact hb (h.up.2 i hm)
theorem Zec.zero (m:Int):Zec (rowN m) (ZhJ m) []:=by
 have hz:∀ j,bitAt (ZhJ m) j=false:=fun j=>by unfold bitAt ZhJ;rw [Znm];simp
 exact ⟨Zk9 m,fun j _=>hz j,⟨List.Pairwise.nil,by simp⟩,fun j=>by simp [hz j]⟩
def ZpN (i:Int):List Int→Bool→List Int
 | [],d=>if d then [] else [i]
 | x :: l,d=>(if d=false∧i≤x then [i] else [])++(if x=i then [] else [x])++ZpN i l (d || decide (i≤x))
def putL (l:List Int) (n i:Int) (on:Bool):List Int:=ZpN i l (!on || decide (i<0) || decide (n≤i))
theorem ZdW (i j:Int):∀ (l:List Int) (d:Bool),j ∈ ZpN i l d ↔ (j≠i∧j ∈ l)∨(j=i∧d=false)
 | [],d=>by cases d <;> simp [ZpN]
 | x :: l,d=>by
  rw [ZpN,YE,YE,ZdW i j l]
  by_cases h1:i≤x <;> cases d <;> by_cases h2:x=i <;> by_cases h3:j=i <;> simp_all
  all_goals (try omega)
theorem ZjK (i:Int):∀ (l:List Int) (d:Bool),l.Pairwise (· < ·)→(ZpN i l d).Pairwise (· < ·)
 | [],d,_=>by cases d <;> simp [ZpN]
 | x :: l,d,h=>by
  rw [Yp] at h
  have ih:=ZjK i l (d || decide (i≤x)) h.2
  rw [ZpN]
  by_cases h1:i≤x
  ·have hm:∀ j,j ∈ ZpN i l (d || decide (i≤x))→x<j∧j≠i:=by
    intro j hj
    rw [ZdW] at hj
    rcases hj with hj | hj
    ·exact ⟨h.1 j hj.2,hj.1⟩
    ·simp [h1] at hj
   generalize (d || decide (i≤x))=d' at hm ih ⊢
   cases d <;> by_cases h2:x=i
   ·subst h2
    simp only [Yao,and_self,Yr,Yad,YP,Yap,Yp]
    exact ⟨fun j hj=>(hm j hj).1,ih⟩
   ·simp only [h1,and_self,Yr,h2,Yo,Yap,Yah,Yad,Yp,Yi]
    refine ⟨?_,fun j hj=>(hm j hj).1,ih⟩
    rintro j (rfl | hj)
    ·omega
    ·have:=hm j hj;omega
   ·simp only [h2,Yr,YP,Bool.true_eq_false,false_and,Yo,Yad]
    subst h2;exact ih
   ·simp only [h2,Yo,Bool.true_eq_false,false_and,Yad,Yap,Yp]
    exact ⟨fun j hj=>(hm j hj).1,ih⟩
  ·have hm:∀ j,j ∈ ZpN i l (d || decide (i≤x))→x<j:=by
    intro j hj
    rw [ZdW] at hj
    rcases hj with hj | hj
    ·exact h.1 j hj.2
    ·omega
   generalize (d || decide (i≤x))=d' at hm ih ⊢
   have h2:¬ x=i:=by omega
   simp only [h1,and_false,Yo,h2,Yad,Yap,Yp]
   exact ⟨hm,ih⟩
theorem ZkB {l:List Int} {n i j:Int} {on:Bool} : j ∈ putL l n i on ↔ (j≠i∧j ∈ l)∨(j=i∧on=true∧0≤i∧i<n):=by
 unfold putL
 rw [ZdW]
 cases on <;> simp <;> omega
theorem ZsL {n:Nat} {l:List Int} (h:Up n l) (i:Int) (on:Bool):Up n (putL l n i on):=by
 refine ⟨ZjK _ _ _ h.1,fun j hj=>?_⟩
 rw [ZkB] at hj
 rcases hj with hj | hj
 ·exact h.2 j hj.2
 ·omega
theorem ZlG {n:Nat} {ws:List Int} (hI:Zdn n ws) (i:Int) (on:Bool) (j:Nat):bitAt (setW n ws i on) j=if 0≤i∧i<n∧i=j then on else bitAt ws j:=by
 unfold setW Zr9 hasW
 by_cases hb:0≤i∧i<n
 ·rw [show (decide (0≤i) && decide (i<(n:Int)))=true by simp [hb],Ybp,Ybp]
  have hq:=hI.at i hb.1 hb.2
  have flip:∀ j,bitAt (Zie ws i.toNat) j=if i=j then !bitAt ws j else bitAt ws j:=by
   intro j
   unfold bitAt Zie
   by_cases hj:j / 64<ws.length
   ·rw [Zlc hj]
    by_cases he:i.toNat / 64=j / 64
    ·rw [Yf he,Yb,Nat.testBit_xor,Nat.testBit_two_pow,he]
     by_cases e2:i=j
     ·subst e2;simp
     ·rw [Yc e2,show decide (i.toNat % 64=j % 64)=false by simp;omega,Bool.xor_false]
    ·rw [Yc he,Yc (fun e=>he ow)]
   ·rw [ZjF (by rw [YT];omega),ZjF ow,Yc (fun e=>hj ow)]
  by_cases h1:(bitAt ws i.toNat != on)=true
  ·rw [Yf h1,flip j]
   by_cases e:i=j
   ·rw [Yf e,Yf ⟨hb.1,hb.2,e⟩]
    subst e
    rw [Yb] at h1
    cases hx:bitAt ws j <;> rw [hx] at h1 <;> cases on <;> simp_all
   ·rw [Yc e,Yc (fun h=>e h.2.2)]
  ·rw [Yc h1]
   by_cases e:i=j
   ·rw [Yf ⟨hb.1,hb.2,e⟩]
    subst e
    rw [Yb] at h1
    cases hx:bitAt ws j <;> rw [hx] at h1 <;> cases on <;> simp_all
   ·rw [Yc (fun h=>e h.2.2)]
 ·rw [Zdz hb,Bool.false_and,Yc (by simp),Yc (fun h=>hb ⟨h.1,h.2.1⟩)]
theorem Zec.set {n:Nat} {ws x:List Int} (h:Zec n ws x) (i:Int) (on:Bool):Zec n (setW n ws i on) (putL x n i on):=by
 refine Zec.mk' (h.ok.setW i on) (fun j hj=>?_) (ZsL h.up i on) (fun j hj=>?_)
 ·rw [ZlG h.ok,Yc ow,h.clean j hj]
 ·rw [ZlG h.ok,ZkB]
  have:=h.mem j
  by_cases e:0≤i∧i<n∧i=j
  ·rw [Yf e]
   constructor
   ·intro ho;exact .inr ⟨e.2.2.symm,ho,e.1,e.2.1⟩
   ·rintro (⟨h1,_⟩ | ⟨_,h2,_⟩)
    ·exact absurd e.2.2.symm h1
    ·exact h2
  ·rw [Yc e,this]
   constructor
   ·intro hm
    refine .inl ⟨fun e'=>e ?_,hm⟩
    omega
   ·rintro (⟨_,h2⟩ | ⟨h1,_,h3,h4⟩)
    ·exact h2
    ·exact absurd ⟨h3,h4,h1.symm⟩ e
end Go.Proofs.YtlkpllemoepamaaGreat
