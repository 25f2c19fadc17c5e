/- Laws and walks. No condition beyond what each says. -/
import Derived.Laws.BitsLemmas
import Derived.Test.YtlaaiihdhockcaaGreatDoorLibL
import Derived.Lib.TrailingZeros
namespace Go.Proofs.YtlaaiihdhockcaaGreatDoor
open Go Go.Gm Tryz
set_option linter.unusedVariables false
set_option linter.unusedSimpArgs false
set_option maxHeartbeats 4000000
set_option maxRecDepth 8000
theorem YbA:type_of% @underlying38:=@underlying38
theorem YbB:type_of% @underlying48:=@underlying48
theorem YbC:type_of% @underlying76:=@underlying76
theorem YbD:type_of% @underlying97:=@underlying97
theorem YbE:type_of% @underlying81:=@underlying81
theorem YbF:type_of% @underlying98:=@underlying98
theorem YbG:type_of% @underlying3:=@underlying3
theorem YbH:type_of% @underlying21:=@underlying21
theorem YbI:type_of% @underlying116:=@underlying116
theorem YbJ:type_of% @underlying63:=@underlying63
theorem YbK:type_of% @underlying60:=@underlying60
theorem YbL:type_of% @underlying47:=@underlying47
theorem YbM:type_of% @underlying87:=@underlying87
theorem YbO:type_of% @underlying26:=@underlying26
theorem YbP:type_of% @underlying22:=@underlying22
theorem Zr {x:Int} (h : -9223372036854775808≤x∧x≤9223372036854775807):IntKind.wrap .i64 x=x:=ZdG ⟨by simp [IntKind.min,IntKind.signed,IntKind.bits];omega,by simp [IntKind.max,IntKind.signed,IntKind.bits];omega⟩
theorem Zf {i:Nat} (h:i<9223372036854775807):IntKind.wrap .i64 ((i:Int)+1)=((i+1:Nat):Int):=by rw [Zr ow];omega
theorem ZI {x:Int} (h:0≤x∧x≤18446744073709551615):IntKind.wrap .u64 x=x:=ZdG ⟨by simp [IntKind.min,IntKind.signed,IntKind.bits];omega,by simp [IntKind.max,IntKind.signed,IntKind.bits];omega⟩
theorem Zbd (x:Int):IntKind.wrap .u64 x=x % 18446744073709551616:=by simp [IntKind.wrap,IntKind.bits,IntKind.signed]
theorem Zef {x:Int} (h:inR .u64 x):0≤x∧x≤18446744073709551615:=by simpa [inR,IntKind.min,IntKind.max,IntKind.signed,IntKind.bits] using h
theorem Sat.lenSl {α:Type} {R:α→List PV} {B:Zap} {E:En} {a:Act} {w:World} {F:Fp} (h:Sat B E a w F) {i:Nat} {l:List α} (hl:Go.Gm.look E.s i=some (SF.pv (PV.sl R l))):l.length≤9223372036854775807:=by
 obtain ⟨_,cap,_,h1,h2,_⟩:=h.s i _ hl
 unfold maxLen at h2
 omega
def Zk (n:Int):List PV:=[.int .i64 n]
theorem Zcj {α:Type} [Inhabited α] {x y:List α} (hl:x.length=y.length) (h:∀ j,j<x.length→Nn x j=Nn y j):x=y:=by
 apply Y4 hl
 intro j h1 h2
 have:=h j h1
 rwa [nth_eq h1,nth_eq h2] at this
theorem Zcb {α:Type} [Inhabited α] {q:List α} {k:Nat} (h:k<q.length):q.take k ++ [Nn q k] = q.take (k+1):=by
 rw [nth_eq h,List.take_succ_eq_append_getElem h]
theorem nth_mem {α:Type} [Inhabited α] {q:List α} {k:Nat} (h:k<q.length):Nn q k ∈ q:=by rw [nth_eq h];exact Ybi h
theorem Zfg {α:Type} [Inhabited α] {l:List α} {i:Nat} (h:i<l.length):l.drop i=Nn l i :: l.drop (i+1):=by rw [nth_eq h];exact Ya7 h
theorem ZE {α:Type} [Inhabited α] {l:List α} {i:Nat} (h:i<l.length):l.take (i+1)=l.take i ++ [Nn l i]:=(Zcb h).symm
def rU64 (x:Int):List PV:=[.int .u64 x]
def bitAt (ws:List Int) (j:Nat):Bool:=(Nn ws (j / 64)).toNat.testBit (j % 64)
def ZgZ (ws:List Int) (j:Nat):List Int:=ws.set (j / 64) (((Nn ws (j / 64)).toNat ^^^ 2 ^ (j % 64):Nat):Int)
def hasW (n:Nat) (ws:List Int) (i:Int):Bool:=(decide (0≤i) && decide (i<n)) && bitAt ws i.toNat
def setB (n:Nat) (ws:List Int) (i:Int) (on:Bool):Bool:=(decide (0≤i) && decide (i<n)) && (hasW n ws i != on)
def setW (n:Nat) (ws:List Int) (i:Int) (on:Bool):List Int:=if setB n ws i on then ZgZ ws i.toNat else ws
structure ZP (n:Nat) (ws:List Int):Prop where
 hi:n≤65536
 len:ws.length=(n+63) / 64
 wd:∀ k,0≤Nn ws k∧Nn ws k<18446744073709551616
def Zcf (v wv:Value) (n:Nat) (ws:List Int):List RS:=[.pt (.val v) 100 [.pv (.int .i64 n),.pv (.is wv)],.ob (.val wv) (Zo 101 1 rU64 ws)]
def Zay (v:Value) (n:Nat) (ws:List Int):HP:=.ex fun wv:Value=>.and (ZP n ws) (.star (Zcf v wv n ws))
theorem Zgq {v:Value} {n:Nat} {ws:List Int} {w:World} {f y:Ys} (h:(Zay v n ws).p w f y):ZP n ws ∧ ∃ b,v = .pointer (some ⟨b,0,none⟩):=by
 obtain ⟨_,hI,h⟩:=h
 exact ⟨hI,HP.star_pt h⟩
theorem shr6 (i:Int):i.fdiv (2 ^ min (6:Int).toNat (IntKind.bits .i64))=i / 64:=Yaj i (by decide)
theorem and63 (i:Int) (h:0≤i∧i≤9223372036854775807):bits .and .i64 i 63=i % 64:=by
 obtain ⟨X,rfl⟩:=Yz h.1
 have h1:(BitVec.ofInt 64 (X:Int)).toNat=X:=by rw [Yap];omega
 have h2:(BitVec.ofInt 64 (63:Int)).toNat=2 ^ 6 - 1:=by decide
 show IntKind.wrap .i64 (((BitVec.ofInt 64 (X:Int) &&& BitVec.ofInt 64 63).toNat:Nat):Int)=_
 rw [Ybu,h1,h2,Yaw,Zr ow]
 omega
theorem and1 (x:Int) (h:0≤x∧x<18446744073709551616):bits .and .u64 x 1=x % 2:=by
 obtain ⟨X,rfl⟩:=Yz h.1
 have h1:(BitVec.ofInt 64 (X:Int)).toNat=X:=by rw [Yap];omega
 have h2:(BitVec.ofInt 64 (1:Int)).toNat=2 ^ 1 - 1:=by decide
 show IntKind.wrap .u64 (((BitVec.ofInt 64 (X:Int) &&& BitVec.ofInt 64 1).toNat:Nat):Int)=_
 rw [Ybu,h1,h2,Yaw,ZI ow]
 omega
theorem xor64 (x y:Nat) (hx:x<18446744073709551616) (hy:y<18446744073709551616):bits .xor .u64 (x:Int) (y:Int)=((x ^^^ y:Nat):Int):=by
 have h1:(BitVec.ofInt 64 (x:Int)).toNat=x:=by rw [Yap];omega
 have h2:(BitVec.ofInt 64 (y:Int)).toNat=y:=by rw [Yap];omega
 show IntKind.wrap .u64 (((BitVec.ofInt 64 (x:Int) ^^^ BitVec.ofInt 64 (y:Int)).toNat:Nat):Int)=_
 rw [BitVec.toNat_xor,h1,h2]
 exact ZI (by have:=Nat.xor_lt_two_pow (n:=64) hx hy;omega)
theorem ZoA {x:Int} (h:0≤x∧x<18446744073709551616) (i:Int) (hi:0≤i∧i≤9223372036854775807):decide (bits .and .u64 (x.fdiv (2 ^ min (IntKind.wrap .u64 (bits .and .i64 i 63)).toNat (IntKind.bits .u64))) 1=1)=x.toNat.testBit (i.toNat % 64):=by
 obtain ⟨X,rfl⟩:=Yz h.1
 obtain ⟨I,rfl⟩:=Yz hi.1
 rw [and63 _ hi,ZI ow,Yb,Yb]
 have e1:min ((I:Int) % 64).toNat (IntKind.bits .u64)=I % 64:=by simp only [IntKind.bits];omega
 rw [e1,Yaj _ (by exact_mod_cast YA _)]
 have e2:(X:Int) / 2 ^ (I % 64)=((X / 2 ^ (I % 64):Nat):Int):=by norm_cast
 have hle:X / 2 ^ (I % 64)≤X:=Nat.div_le_self _ _
 rw [e2,Nat.testBit_eq_decide_div_mod_eq]
 generalize X / 2 ^ (I % 64)=q at hle ⊢
 rw [and1 _ ow]
 exact decide_eq_decide.2 ow
theorem ZP.at {n:Nat} {ws:List Int} (h:ZP n ws) (i:Int) (h0:0≤i) (h1:i<n):0≤i / 64∧i / 64<ws.length:=by have:=h.len;omega
theorem u64_nonneg (x:Int):0≤IntKind.wrap .u64 x:=by rw [Zbd];omega
theorem and_iff {a b:Prop} [Decidable a] [Decidable b] (h:(decide a && decide b)=true):a∧b:=by simpa using h
theorem ZhY (n:Nat) (p:PV):FnP prog 53 [.ref [.int .i64 n,p]] (.int .i64 n):=by
 refine FnP.mk func53 V ntmps53 V fun B a w F J hfr G=>Ya ?_
 refine rZ G (qI qZ) J [2,0] [0] fun G=>(Ya (Ya ?_))
 refine rZ G (qR rr (qf (Zab underlying51 .t) r1 qz qZ)) J [4,2,0] [0] fun G=>?_
 refine Zc G V (fun hc0=>?_) (fun hc0=>?_)
 ·simp at hc0
 refine Yg (Za (Ya (rZ G (qR rr (qf (o_nilCheck_ref .t) r1 qz (qf (oG 0 .t) r1 qz (qf (oR false 1 .t) r1 qz (qO rr qZ))))) J [2] [0] fun G=>Yl ?_)))
 refine Zz hfr G V V V .refl
theorem Zhn (n:Nat) (p:PV) (i:Int):FnP prog 52 [.ref [.int .i64 n,p],.int .i64 i] (.bool (decide (0≤i) && decide (i<n))):=by
 refine FnP.mk func52 V ntmps52 V fun B a w F J hfr G=>Ya ?_
 refine rZ G qB J [4,1,0] [0] fun G=>Ya ?_
 refine rZ G (qR rr (qf (Zb6 .t qi) r1 qz (qR rr (qm V V V V (qm V V V V (qk V (fun h=>oP (ZhY n p) func53 (Args.one (.w h))) r2 qz (qk V (fun h=>Zbg (.w h) (.w h)) r3 qz (qf (ZF .t .t) r2 qz (qO rr qZ))))))))) J [4] [0] fun G=>Yl ?_
 refine Zz hfr G V V V .refl
theorem Int.toNat_ediv_64 {i:Int} (h:0≤i):(i / 64).toNat=i.toNat / 64:=by omega
theorem Zbc {a b:Prop} [Decidable a] [Decidable b] (h:¬ (a∧b)):(decide a && decide b)=false:=by rw [← Bool.decide_and];exact YW h
theorem Zn6 (n:Nat) (ws:List Int) (hI:ZP n ws) (i:Int):FnP prog 26 [.ref [.int .i64 n,.sl rU64 ws],.int .i64 i] (.bool (hasW n ws i)):=by
 refine FnP.mk func26 V ntmps26 V fun B a w F J hfr G=>Ya ?_
 refine rZ G qB J [4,1,0] [0] fun G=>Ya ?_
 refine rZ G (qR rr (qR rr (qf (oP (Zhn n _ i) func52 (Args.two .t .t)) r2 qz (qR rr (qm V V V V (qk V (fun h=>o_nilCheck_ref (.w h)) r2 qz (qk V (fun h=>oG 1 (.w h)) r2 qz (qk V (fun h=>oR false 1 (.w h)) r2 qz (qm V V V V (qk V (fun h=>Zb4 (.w h) qi (by decide)) r2 qz (qk V (fun h=>o_indexAddr_sl (sz:=1) (.mk YbD kr) (by intro x;rfl) (.w h) (.w h) (by rw [shr6];exact (hI.at i (and_iff h).1 (and_iff h).2).1) (by rw [shr6];exact (hI.at i (and_iff h).1 (and_iff h).2).2)) r3 qz (qk V (fun h=>oR false 1 (.w h)) r2 qz (qm V V V V (qk V (fun h=>o_and (.w h) qi) r2 qz (qk V (fun h=>o_conv YbF kr (.w h)) r2 qz (qk V (fun h=>Zb4 (.w h) (.w h) (u64_nonneg _)) r3 qz (qk V (fun h=>o_and (.w h) qi) r2 qz (qk V (fun h=>o_eql (.w h) qi) r2 qz (qf (ZF .t .t) r2 qz (qO rr qZ)))))))))))))))))))) J [4] [0] fun G=>Yl ?_
 refine Zz hfr G V V V (.bool (by unfold hasW bitAt;by_cases hb:0≤i∧i<n; (rw [shr6,ZoA (hI.wd _) i (by have:=hI.hi;omega),Int.toNat_ediv_64 hb.1]); (simp only [Zbc hb,Ybt])))
def rowN (m:Int):Nat:=(if m<0 then 0 else if m > 65536 then 65536 else m).toNat
theorem Zfd (m:Int):rowN m≤65536:=by unfold rowN;split; (· omega);split <;> omega
theorem ZoE (m:Int):(if 65536<(if m<0 then 0 else m) then 65536 else if m<0 then 0 else m)=((rowN m:Nat):Int):=by unfold rowN;split <;> split <;> (try split) <;> omega
def Zfw (m:Int):List Int:=List.replicate ((rowN m+63) / 64) 0
theorem ZkA (k j:Nat):Nn (List.replicate k (0:Int)) j=0:=by
 by_cases h:j<k
 ·rw [nth_eq (by simpa using h)];simp
 ·unfold Nn;rw [Yaf,YaP (by simp;omega)];rfl
theorem Zi7 (m:Int):ZP (rowN m) (Zfw m):=⟨Zfd m,by simp [Zfw],fun k=>by unfold Zfw;rw [ZkA];omega⟩
theorem ZmA (m:Int):(IntKind.wrap .i64 (((rowN m:Nat):Int)+63)).fdiv (2 ^ min (6:Int).toNat (IntKind.bits .i64))=(((rowN m+63) / 64:Nat):Int):=by
 have:=Zfd m
 rw [shr6,Zr ow];omega
theorem Zmn (w:World) (yy:Ys):PVs (rU64 0) [.int .u64 0] w yy:=⟨⟨rfl,rfl,by simp [inR,IntKind.min,IntKind.max,IntKind.signed,IntKind.bits]⟩,tv⟩
theorem Zgg (ws:List Int) (j:Nat):(ZgZ ws j).length=ws.length:=by simp [ZgZ]
theorem ZaX {ws:List Int} {i j:Nat} {c:Int} (h:j<ws.length):Nn (ws.set i c) j=if i=j then c else Nn ws j:=by
 rw [nth_eq (by simpa using h),nth_eq h,YaK]
theorem Za3 {ws:List Int} {j:Nat} (h:ws.length≤j):Nn ws j=0:=by unfold Nn;rw [Yaf,YaP h];rfl
theorem Zjl {x:Int} (h:0≤x∧x<18446744073709551616) (k:Nat) (hk:k<64):0≤(((x.toNat ^^^ 2 ^ k:Nat)):Int)∧(((x.toNat ^^^ 2 ^ k:Nat)):Int)<18446744073709551616:=by
 have h1:x.toNat<2 ^ 64:=by omega
 have h2:2 ^ k<2 ^ 64:=Nat.pow_lt_pow_right (by decide) hk
 have:=Nat.xor_lt_two_pow h1 h2
 omega
theorem ZP.flip {n:Nat} {ws:List Int} (h:ZP n ws) (j:Nat):ZP n (ZgZ ws j):=by
 refine ⟨h.hi,by rw [Zgg];exact h.len,fun k=>?_⟩
 by_cases hk:k<ws.length
 ·unfold ZgZ
  rw [ZaX hk]
  split
  ·exact Zjl (h.wd _) _ (YaZ _ (by decide))
  ·exact h.wd k
 ·rw [Za3 (by rw [Zgg];omega)];omega
theorem ZP.setW {n:Nat} {ws:List Int} (h:ZP n ws) (i:Int) (on:Bool):ZP n (setW n ws i on):=by
 unfold Go.Proofs.YtlaaiihdhockcaaGreatDoor.setW
 split
 ·exact h.flip _
 ·exact h
theorem Zky {x:Int} (h:0≤x∧x<18446744073709551616) (i:Int) (hi:0≤i∧i≤9223372036854775807):bits .xor .u64 x (IntKind.wrap .u64 (1*2 ^ min (IntKind.wrap .u64 (bits .and .i64 i 63)).toNat (IntKind.bits .u64)))=((x.toNat ^^^ 2 ^ (i.toNat % 64):Nat):Int):=by
 obtain ⟨X,rfl⟩:=Yz h.1
 obtain ⟨I,rfl⟩:=Yz hi.1
 rw [and63 _ hi,ZI (by omega:0≤((I:Int) % 64)∧(I:Int) % 64≤_),Yb,Yb]
 have e1:min ((I:Int) % 64).toNat (IntKind.bits .u64)=I % 64:=by simp only [IntKind.bits];omega
 have h2:2 ^ (I % 64)<2 ^ 64:=Nat.pow_lt_pow_right (by decide) (YaZ _ (by decide))
 have e2:(1:Int)*2 ^ (I % 64)=((2 ^ (I % 64):Nat):Int):=by rw [Int.one_mul];norm_cast
 rw [e1,e2]
 generalize 2 ^ (I % 64)=q at h2 ⊢
 rw [ZI ow,xor64 X q ow ow]
theorem Znl (m:Int):FnG prog 21 1 [.int .i64 m] [.star []] (PV.ptr) (fun v=>[Zay v (rowN m) (Zfw m)]):=by
 refine FnG.mk func21 V ntmps21 V kr fun B F0 a w F J hG G=>?_
 have hr:=ZoE m
 refine Ya (rZ G (qC qZ) J [2,0] [1,0] fun G=>Ya ?_)
 refine Zb G (qR rr (qf (Zhx .t qi) r1 qz (qf (o_min .t qi) r1 qz (qO rr qZ)))) J [2,0] [1,0] V V fun a w F G=>?_
 rw [hr] at G
 refine Za (Ya (Ze G (qR rr (qR rr (qp r1 (qf (Zb4 .t qi (by decide)) r1 qz (qf (Z4 (R:=rU64) (v:=0) (c:=(IntKind.wrap .i64 (((rowN m:Nat):Int)+63)).fdiv (2 ^ min (6:Int).toNat (IntKind.bits .i64))) (sz:=1) (bs:=8) (zs:=[.int .u64 0]) 101 YbD kr kr kr Zmn .t .t (by rw [ZmA];exact YaT _) (by have:=Zfd m;rw [ZmA];omega) (by have:=Zfd m;rw [ZmA];omega)) r2 qz (qf (oB [(0,.tmp 6),(1,.tmp 10)] [.int .i64 0,.slice none 0 0] [(0,1),(1,1)] (.one V .t one_int kr (.same V kr .nil))) r2 qz (qf (oX 102 .t) r1 qz (qO rr qZ)))))))) J [2] [102,101,1,0] (fun _=>rfl) (fun _=>rfl) fun τ a w F G=>?_))
 try dsimp only [RS.sub,SF.sub,CF.sub,csub,Anc.sub,List.map,Zh,xL,xM,Nat.reduceAdd,xD,xE,xT,xU,xC,xN,zCF] at G
 generalize τ 12=v12,τ 10=v10 at G
 rw [ZmA,Yb] at G
 refine Za (Yl ?_)
 obtain ⟨b,rfl⟩:=G.shape 102 rfl
 obtain ⟨F,G⟩:=G.push 1 101 V V V kr
 obtain ⟨F,G⟩:=G.push 1 102 V V V kr
 have G:=G.turn 1 V (r':=RS.hp (Zay (.pointer (some ⟨b,0,none⟩)) (rowN m) (Zfw m))) (fun _ _ _ _ h=>⟨_,Zi7 m,h⟩)
 refine ZU (h':=fun v=>Zay v (rowN m) (Zfw m)) hG G V (.tmp V .nil) (.one .ptr) rfl
theorem set_c (b n:Nat) (ws:List Int) (i:Int) (on:Bool):FnG prog 25 1 [.is (.pointer (some ⟨b,0,none⟩)),.int .i64 i,.bool on] [Zay (.pointer (some ⟨b,0,none⟩)) n ws] (.bool (setB n ws i on)) (fun _=>[Zay (.pointer (some ⟨b,0,none⟩)) n (setW n ws i on)]):=by
 refine FnG.mk func25 V ntmps25 V kr fun B F0 a w F J hG G=>?_
 obtain ⟨wv,G⟩:=G.open_ex 1 rfl
 obtain ⟨hI,G⟩:=G.open_and 1 rfl
 obtain ⟨F,G⟩:=G.peel 1 2 V rfl
 obtain ⟨F,G⟩:=G.peel 1 3 V rfl
 obtain ⟨F,G⟩:=G.nM [2,1,0] [3,2,0]
 refine Ya (rZ G qB J [6,2,1,0] [3,2,0] fun G=>(Ya (Ya ?_)))
 refine rZ G (qR rr (qR rr (qf (ZfS (cells:=[.pv _,.pv _]) 2 (Zhn n _ i) (fun _ _ _ _ _ h=>h) V func52 V kr (ZJ.two .is .t)) r2 r1 (qf (o_not .t) r1 qz (qR rr (qm V V V V (qm V V V V (qk V (fun h=>ZaU (cells:=[.pv _,.pv (.is wv)]) 2 3 1 (Zn6 n ws hI i) (fun _ _ _ _ _ h=>h) V func26 V kr V V (ZJ.two (.w h .is) (.w h))) r3 r2 (qm V V V V (qk V (fun h=>ZoY underlying4 (.w h) (.w h)) r3 qz (qf (Zaa .t .t) r2 qz qZ))))))))))) J [17,6,1,0] [3,2,0] fun G=>?_
 refine Zc G V (fun hc0=>?_) (fun hc0=>?_)
 ·have hs:setB n ws i on=false:=by unfold setB;revert hc0;cases (decide (0≤i) && decide (i<n)) <;> cases hasW n ws i <;> cases on <;> simp
  have hg:setW n ws i on=ws:=by unfold setW;rw [hs];rfl
  refine Ya (rZ G qB J [6,1,0] [3,2,0] fun G=>(Yl (Zw ?_)))
  have G:=G.fresh 1 rfl
  obtain ⟨F,G⟩:=G.push 1 3 V V V kr
  obtain ⟨F,G⟩:=G.push 1 2 V V V kr
  have G:=G.turn 1 V (r':=RS.hp (Zay (.pointer (some ⟨b,0,none⟩)) n (setW n ws i on))) (fun _ _ _ _ h=>⟨_,(hI.setW i on),(by rw [hg];exact h)⟩)
  refine Zy hG G V (.tmp V .nil) (.one (.bool hs.symm)) rfl
 have hs:setB n ws i on=true:=by unfold setB;revert hc0;cases (decide (0≤i) && decide (i<n)) <;> cases hasW n ws i <;> cases on <;> simp
 have hg:setW n ws i on=ZgZ ws i.toNat:=by unfold setW;rw [hs];rfl
 have hb:0≤i∧i<n:=by
   have hs':=hs
   simp only [setB,YB,Yn] at hs'
   exact hs'.1
 have hhi:=hI.hi
 have hq:=hI.at i hb.1 hb.2
 rw [← shr6] at hq
 have hq2:(i.fdiv (2 ^ min (6:Int).toNat (IntKind.bits .i64))).toNat<ws.length:=by omega
 refine Yg (Za (Ya (Zb G (qR rr (qf (o_nilCheck 2 .is (by rfl)) r1 r1 (qf (oF 1 2 .adr) r1 r1 (qa 2 r1 r1 (qR rr (qf (Zb4 .t qi (by decide)) r1 qz (qf (o_indexAddr_row (sz:=1) 3 (.mk YbD kr) .is .t hq.1 hq.2 (by rfl)) r2 r1 (qf (Zg (ag:=false) (sz':=1) (sz:=1) 3 .t (by intro x;rfl) hq2 kr kr kr) r1 r1 (qR rr (qf (o_and .t qi) r1 qz (qf (o_conv YbF kr .t) r1 qz (qf (o_shl qi .t (u64_nonneg _)) r1 qz (qf (o_xor .t .t) r2 qz (qf (o_indexAddr_row (sz:=1) 3 (.mk YbD kr) .is .t hq.1 hq.2 (by rfl)) r2 r1 (qf (Zt (R:=rU64) (sz:=1) (v:=_) 3 .t (by intro x;rfl) hq2 .t V one_int kr) r2 r1 qZ))))))))))))))) J [6] [3,2,0] V V fun a w F G=>?_)))
 rw [Zky (hI.wd _) i ow,shr6,Int.toNat_ediv_64 hb.1] at G
 refine Za (Ya (rZ G qB J [6] [3,2,0] fun G=>Yl ?_))
 have G:=G.fresh 1 rfl
 obtain ⟨F,G⟩:=G.push 1 3 V V V kr
 obtain ⟨F,G⟩:=G.push 1 2 V V V kr
 have G:=G.turn 1 V (r':=RS.hp (Zay (.pointer (some ⟨b,0,none⟩)) n (setW n ws i on))) (fun _ _ _ _ h=>⟨_,(hI.setW i on),(by rw [hg];exact h)⟩)
 refine Zy hG G V (.tmp V .nil) (.one (.bool hs.symm)) rfl
theorem Zkz {ws:List Int} {j:Nat} (h:ws.length*64≤j):bitAt ws j=false:=by
 unfold bitAt
 rw [Za3 ow]
 simp
def places (n:Nat) (ws:List Int):List Int:=((List.range n).filter fun j=>bitAt ws j).map fun j:Nat=>(j:Int)
def Zpq (n:Nat) (ws:List Int):Prop:=∀ j,n≤j→bitAt ws j=false
def Up (n:Nat) (x:List Int):Prop:=x.Pairwise (· < ·) ∧ ∀ i ∈ x,0≤i∧i<n
structure ZA (n:Nat) (ws:List Int) (x:List Int):Prop where
 ok:ZP n ws
 clean:Zpq n ws
 up:Up n x
 mem:∀ j:Nat,bitAt ws j=true ↔ (j:Int) ∈ x
theorem Zbm:∀ {x y:List Int},x.Pairwise (· < ·)→y.Pairwise (· < ·)→(∀ i,i ∈ x ↔ i ∈ y)→x=y
 | [],[],_,_,_=>rfl
 | [],b :: y,_,_,h=>by have:=(h b).2 (by simp);simp at this
 | a :: x,[],_,_,h=>by have:=(h a).1 (by simp);simp at this
 | a :: x,b :: y,hx,hy,h=>by
  rw [Yq] at hx hy
  have e:a=b:=by
   have h1:=(h a).1 (by simp)
   have h2:=(h b).2 (by simp)
   rcases Yh.1 h1 with h1 | h1
   ·exact h1
   ·rcases Yh.1 h2 with h2 | h2
    ·exact h2.symm
    ·have:=hy.1 a h1
     have:=hx.1 b h2
     omega
  subst e
  rw [Zbm hx.2 hy.2 fun i=>?_]
  constructor
  ·intro hi
   have:=(h i).1 (Yw _ hi)
   rcases Yh.1 this with e | h'
   ·subst e;have:=hx.1 _ hi;omega
   ·exact h'
  ·intro hi
   have:=(h i).2 (Yw _ hi)
   rcases Yh.1 this with e | h'
   ·subst e;have:=hy.1 _ hi;omega
   ·exact h'
theorem ZA.mk' {n:Nat} {ws x:List Int} (hok:ZP n ws) (hc:Zpq n ws) (hu:Up n x) (h:∀ j:Nat,j<n→(bitAt ws j=true ↔ (j:Int) ∈ x)):ZA n ws x:=by
 refine ⟨hok,hc,hu,fun j=>?_⟩
 by_cases hj:j<n
 ·exact h j hj
 ·rw [hc j ow]
  constructor
  ·intro h;cases h
  ·intro hm;have:=hu.2 _ hm;omega
theorem ZA.uniq {n:Nat} {ws x y:List Int} (h:ZA n ws x) (k:ZA n ws y):x=y:=
 Zbm h.up.1 k.up.1 fun i=>by
  constructor
  ·intro hi
   have h1:=h.up.2 i hi
   have:=(k.mem i.toNat).1 ((h.mem i.toNat).2 (by rw [Yad h1.1];exact hi))
   rwa [Yad h1.1] at this
  ·intro hi
   have h1:=k.up.2 i hi
   have:=(h.mem i.toNat).1 ((k.mem i.toNat).2 (by rw [Yad h1.1];exact hi))
   rwa [Yad h1.1] at this
theorem Zmx {n:Nat} {ws us:List Int} (h:ZP n ws) (k:ZP n us) (hb:∀ j,bitAt ws j=bitAt us j):ws=us:=by
 apply Y4 (by rw [h.len,k.len])
 intro i h1 h2
 have e1:=h.wd i
 have e2:=k.wd i
 rw [nth_eq h1] at e1
 rw [nth_eq h2] at e2
 have key:ws[i].toNat=us[i].toNat:=by
  apply Nat.eq_of_testBit_eq
  intro t
  by_cases ht:t<64
  ·have:=hb (i*64+t)
   unfold bitAt at this
   rw [show (i*64+t) / 64=i by omega,show (i*64+t) % 64=t by omega,nth_eq h1,nth_eq h2] at this
   exact this
  ·rw [Nat.testBit_lt_two_pow (YU (by omega:ws[i].toNat<2 ^ 64) (Ybr (by decide) ow)),Nat.testBit_lt_two_pow (YU (by omega:us[i].toNat<2 ^ 64) (Ybr (by decide) ow))]
 omega
theorem ZA.words {n:Nat} {ws us x:List Int} (h:ZA n ws x) (k:ZA n us x):ws=us:=
 Zmx h.ok k.ok fun j=>by
  have h1:=h.mem j
  have h2:=k.mem j
  rw [← h2] at h1
  cases e1:bitAt ws j <;> cases e2:bitAt us j <;> simp_all
theorem ZA.in {n:Nat} {ws x:List Int} (h:ZA n ws x) (i:Int):hasW n ws i=decide (i ∈ x):=by
 unfold hasW
 by_cases hb:0≤i∧i<n
 ·have:=h.mem i.toNat
  rw [Yad hb.1] at this
  rw [show (decide (0≤i) && decide (i<(n:Int)))=true by simp [hb],Yaz]
  by_cases hm:i ∈ x
  ·rw [Yy hm,this.2 hm]
  ·rw [YW hm]
   cases e:bitAt ws i.toNat
   ·rfl
   ·exact absurd (this.1 e) hm
 ·rw [Zbc hb,Ybt,YaA,YR]
  intro hm
  exact hb (h.up.2 i hm)
theorem ZA.zero (m:Int):ZA (rowN m) (Zfw m) []:=by
 have hz:∀ j,bitAt (Zfw m) j=false:=fun j=>by unfold bitAt Zfw;rw [ZkA];simp
 exact ⟨Zi7 m,fun j _=>hz j,⟨List.Pairwise.nil,by simp⟩,fun j=>by simp [hz j]⟩
def ZlW (i:Int):List Int→Bool→List Int
 | [],d=>if d then [] else [i]
 | x :: l,d=>(if d=false∧i≤x then [i] else [])++(if x=i then [] else [x])++ZlW i l (d || decide (i≤x))
def putL (l:List Int) (n i:Int) (on:Bool):List Int:=ZlW i l (!on || decide (i<0) || decide (n≤i))
theorem Zcy (i j:Int):∀ (l:List Int) (d:Bool),j ∈ ZlW i l d ↔ (j≠i∧j ∈ l)∨(j=i∧d=false)
 | [],d=>by cases d <;> simp [ZlW]
 | x :: l,d=>by
  rw [ZlW,Yu,Yu,Zcy i j l]
  by_cases h1:i≤x <;> cases d <;> by_cases h2:x=i <;> by_cases h3:j=i <;> simp_all
  all_goals (try omega)
theorem Zhl (i:Int):∀ (l:List Int) (d:Bool),l.Pairwise (· < ·)→(ZlW i l d).Pairwise (· < ·)
 | [],d,_=>by cases d <;> simp [ZlW]
 | x :: l,d,h=>by
  rw [Yq] at h
  have ih:=Zhl i l (d || decide (i≤x)) h.2
  rw [ZlW]
  by_cases h1:i≤x
  ·have hm:∀ j,j ∈ ZlW i l (d || decide (i≤x))→x<j∧j≠i:=by
    intro j hj
    rw [Zcy] at hj
    rcases hj with hj | hj
    ·exact ⟨h.1 j hj.2,hj.1⟩
    ·simp [h1] at hj
   generalize (d || decide (i≤x))=d' at hm ih ⊢
   cases d <;> by_cases h2:x=i
   ·subst h2
    simp only [Yak,and_self,Yo,Yal,Yax,Yat,Yq]
    exact ⟨fun j hj=>(hm j hj).1,ih⟩
   ·simp only [h1,and_self,Yo,h2,Yj,Yat,YaV,Yal,Yq,Yh]
    refine ⟨?_,fun j hj=>(hm j hj).1,ih⟩
    rintro j (rfl | hj)
    ·omega
    ·have:=hm j hj;omega
   ·simp only [h2,Yo,Yax,Bool.true_eq_false,false_and,Yj,Yal]
    subst h2;exact ih
   ·simp only [h2,Yj,Bool.true_eq_false,false_and,Yal,Yat,Yq]
    exact ⟨fun j hj=>(hm j hj).1,ih⟩
  ·have hm:∀ j,j ∈ ZlW i l (d || decide (i≤x))→x<j:=by
    intro j hj
    rw [Zcy] at hj
    rcases hj with hj | hj
    ·exact h.1 j hj.2
    ·omega
   generalize (d || decide (i≤x))=d' at hm ih ⊢
   have h2:¬ x=i:=by omega
   simp only [h1,and_false,Yj,h2,Yal,Yat,Yq]
   exact ⟨hm,ih⟩
theorem ZaY {l:List Int} {n i j:Int} {on:Bool} : j ∈ putL l n i on ↔ (j≠i∧j ∈ l)∨(j=i∧on=true∧0≤i∧i<n):=by
 unfold putL
 rw [Zcy]
 cases on <;> simp <;> omega
theorem ZbC {n:Nat} {l:List Int} (h:Up n l) (i:Int) (on:Bool):Up n (putL l n i on):=by
 refine ⟨Zhl _ _ _ h.1,fun j hj=>?_⟩
 rw [ZaY] at hj
 rcases hj with hj | hj
 ·exact h.2 j hj.2
 ·omega
theorem Zfc {n:Nat} {ws:List Int} (hI:ZP n ws) (i:Int) (on:Bool) (j:Nat):bitAt (setW n ws i on) j=if 0≤i∧i<n∧i=j then on else bitAt ws j:=by
 unfold setW setB hasW
 by_cases hb:0≤i∧i<n
 ·rw [show (decide (0≤i) && decide (i<(n:Int)))=true by simp [hb],Yaz,Yaz]
  have hq:=hI.at i hb.1 hb.2
  have flip:∀ j,bitAt (ZgZ ws i.toNat) j=if i=j then !bitAt ws j else bitAt ws j:=by
   intro j
   unfold bitAt ZgZ
   by_cases hj:j / 64<ws.length
   ·rw [ZaX hj]
    by_cases he:i.toNat / 64=j / 64
    ·rw [Yf he,Yb,Nat.testBit_xor,Nat.testBit_two_pow,he]
     by_cases e2:i=j
     ·subst e2;simp
     ·rw [Ye e2,show decide (i.toNat % 64=j % 64)=false by simp;omega,Bool.xor_false]
    ·rw [Ye he,Ye (fun e=>he ow)]
   ·rw [Za3 (by rw [YM];omega),Za3 ow,Ye (fun e=>hj ow)]
  by_cases h1:(bitAt ws i.toNat != on)=true
  ·rw [Yf h1,flip j]
   by_cases e:i=j
   ·rw [Yf e,Yf ⟨hb.1,hb.2,e⟩]
    subst e
    rw [Yb] at h1
    cases hx:bitAt ws j <;> rw [hx] at h1 <;> cases on <;> simp_all
   ·rw [Ye e,Ye (fun h=>e h.2.2)]
  ·rw [Ye h1]
   by_cases e:i=j
   ·rw [Yf ⟨hb.1,hb.2,e⟩]
    subst e
    rw [Yb] at h1
    cases hx:bitAt ws j <;> rw [hx] at h1 <;> cases on <;> simp_all
   ·rw [Ye (fun h=>e h.2.2)]
 ·rw [Zbc hb,Ybt,Ye (by simp),Ye (fun h=>hb ⟨h.1,h.2.1⟩)]
theorem ZA.set {n:Nat} {ws x:List Int} (h:ZA n ws x) (i:Int) (on:Bool):ZA n (setW n ws i on) (putL x n i on):=by
 refine ZA.mk' (h.ok.setW i on) (fun j hj=>?_) (ZbC h.up i on) (fun j hj=>?_)
 ·rw [Zfc h.ok,Ye ow,h.clean j hj]
 ·rw [Zfc h.ok,ZaY]
  have:=h.mem j
  by_cases e:0≤i∧i<n∧i=j
  ·rw [Yf e]
   constructor
   ·intro ho;exact .inr ⟨e.2.2.symm,ho,e.1,e.2.1⟩
   ·rintro (⟨h1,_⟩ | ⟨_,h2,_⟩)
    ·exact absurd e.2.2.symm h1
    ·exact h2
  ·rw [Ye e,this]
   constructor
   ·intro hm
    refine .inl ⟨fun e'=>e ?_,hm⟩
    omega
   ·rintro (⟨_,h2⟩ | ⟨h1,_,h3,h4⟩)
    ·exact h2
    ·exact absurd ⟨h3,h4,h1.symm⟩ e
theorem ZA.setB {n:Nat} {ws x:List Int} (h:ZA n ws x) (i:Int) (on:Bool):setB n ws i on = !decide (x=putL x n i on):=by
 have k:=h.set i on
 by_cases e:x=putL x n i on
 ·rw [Yy e]
  have k':ZA n (setW n ws i on) x:=by rw [e];rw [← e];rw [← e] at k;exact k
  have hw:=h.words k'
  unfold Go.Proofs.YtlaaiihdhockcaaGreatDoor.setB
  by_cases hb:0≤i∧i<n
  ·have hb2:=Zfc h.ok i on i.toNat
   rw [← hw,Yf ⟨hb.1,hb.2,by omega⟩] at hb2
   unfold hasW
   rw [show (decide (0≤i) && decide (i<(n:Int)))=true by simp [hb],hb2]
   simp
  ·rw [Zbc hb];rfl
 ·rw [YW e]
  cases hs:Go.Proofs.YtlaaiihdhockcaaGreatDoor.setB n ws i on with
  | true=>rfl
  | false=>
   have:setW n ws i on=ws:=by unfold setW;rw [hs];rfl
   rw [this] at k
   exact absurd (h.uniq k) e
def s1 (b:Nat):Nat:=(b / 2 &&& 85)+(b &&& 85)
def s2 (b:Nat):Nat:=(b / 4 &&& 51)+(b &&& 51)
def s3 (b:Nat):Nat:=(b / 16+b) &&& 15
theorem Zdc (x m:Nat) (hx:x<18446744073709551616) (hm:m<18446744073709551616):bits .and .u64 (x:Int) (m:Int)=((x &&& m:Nat):Int):=by
 have h1:(BitVec.ofInt 64 (x:Int)).toNat=x:=by rw [Yap];omega
 have h2:(BitVec.ofInt 64 (m:Int)).toNat=m:=by rw [Yap];omega
 show IntKind.wrap .u64 (((BitVec.ofInt 64 (x:Int) &&& BitVec.ofInt 64 (m:Int)).toNat:Nat):Int)=_
 rw [Ybu,h1,h2]
 exact ZI (by have:=Nat.and_lt_two_pow (n:=64) x (y:=m) ow;omega)
def ZhH:List Int:=Lib.deBruijn64tab.map fun c:Nat=>(c:Int)
def Zez:PV:=.ref (ZhH.map fun c=>PV.int .u8 c)
def ZfU:Value:=.pointer (some ⟨0,0,none⟩)
def Z0 (v:Value) (n:Nat) (x:List Int):HP:=.ex fun ws:List Int=>.and (ZA n ws x) (.star [RS.hp (Zay v n ws),RS.hp (gH Zez ZfU)])
def setR (n:Nat) (x:List Int):PV:=⟨fun u w y=>(∃ ws,ZA n ws x∧(PV.ref [.int .i64 n,.sl rU64 ws]).p u w y)∧Zez.p ZfU w y,
 fun h ⟨⟨ws,h1,h2⟩,h3⟩=>⟨⟨ws,h1,PV.mono _ h h2⟩,PV.mono _ h h3⟩⟩
theorem ZQ {v:Value} {n:Nat} {x:List Int} {w:World} {f y:Ys} : (Z0 v n x).p w f y ↔ ∃ ws,ZA n ws x∧(Zay v n ws).p w f y∧Zez.p ZfU w y:=by
 constructor
 ·rintro ⟨ws,h1,h2⟩
  obtain ⟨h3,h4⟩:=(Zo2 rfl).1 h2
  exact ⟨ws,h1,h3,h4⟩
 ·rintro ⟨ws,h1,h3,h4⟩
  exact ⟨ws,h1,(Zo2 rfl).2 ⟨h3,h4⟩⟩
theorem ZbK {v:Value} {n:Nat} {x:List Int} {w:World} {f y:Ys} (h:(Z0 v n x).p w f y):∃ b,v = .pointer (some ⟨b,0,none⟩):=by
 obtain ⟨ws,_,h,_⟩:=ZQ.1 h
 exact (Zgq h).2
theorem Zoj {v:Value} {n:Nat} {x:List Int} {w:World} {f y:Ys} (h:(Z0 v n x).p w f y):n≤65536∧Up n x:=by
 obtain ⟨ws,h,_,_⟩:=ZQ.1 h
 exact ⟨h.ok.hi,h.up⟩
theorem ZeR (v:Value) (n:Nat) (ws:List Int):ZpB (Zay v n ws):=by
 rintro w f y y' ⟨wv,hI,f1,f2,e1,e2,e3,⟨b,vs,h1,h2,h3,h4⟩,f3,f4,e4,e5,e6,⟨xs,h5,h6,h7⟩,h8⟩
 refine ⟨wv,hI,f1,f2,e1,e2,e3,⟨b,vs,h1,h2,h3,?_⟩,f3,f4,e4,e5,e6,⟨xs,h5,?_,h7⟩,h8⟩
 ·generalize vs.toList=us at h4
  match us,h4 with
  | [u1,u2],h4=>exact h4
 ·have:∀ (l:List Int) (us:List Value),PVs (l.flatMap rU64) us w y→PVs (l.flatMap rU64) us w y':=by
   intro l
   induction l with
   | nil=>
    intro us h
    match us,h with
    | [],_=>trivial
   | cons a l ih=>
    intro us h
    match us,h with
    | u :: us,h=>exact ⟨h.1,ih us h.2⟩
  exact this _ _ h6
theorem setH_lend {v:Value} {n:Nat} {x:List Int} : Zlr (Z0 v n x) v (setR n x):=by
 intro w f y y' h hle hf hb
 obtain ⟨ws,h1,h2,h3⟩:=ZQ.1 h
 refine ⟨⟨ws,h1,?_⟩,PV.mono _ (Ev.less w hle) h3⟩
 obtain ⟨wv,hI,f1,f2,e1,e2,e3,⟨b,vs,k1,k2,k3,k4⟩,f3,f4,e4,e5,e6,⟨xs,k5,k6,k7⟩,k8⟩:=h2
 refine ⟨b,0,vs.toList,k1,hf b ((e1 b).2 (.inl ((k3 b).2 V))),hb b ((e1 b).2 (.inl ((k3 b).2 V))),Zn.mk fun j u hj=>?_,?_⟩
 ·simp only [YG]
  simp [World.cell?,k2]
  simpa using hj
 ·generalize vs.toList=us at k4
  match us,k4 with
  | [u1,u2],k4=>
   refine ⟨k4.1,⟨k4.2.1.1,?_⟩,tv⟩
   have e:u2=wv:=k4.2.1.2.1
   subst e
   obtain ⟨ad,cap,e8,h8,h9,h10⟩:=Zs k5
   refine ⟨ad,cap,e8,h8,h9,?_⟩
   rcases h10 with h10 | ⟨b',rfl,h11,h12⟩
   ·exact .inl (YC h10)
   ·have hb':f b':=(e1 b').2 (.inr ((e4 b').2 (.inl ((k7 b').2 h11))))
    exact .inr ⟨b',0,xs,rfl,hf b' hb',hb b' hb',h12,PVs.mono (Ev.less w hle) k6⟩
theorem FnP.ofWords {f:FuncId} {args:List PV} {q:PV} {n:Nat} {x:List Int} (h:∀ ws,ZA n ws x→Zhi prog Zez ZfU f (.ref [.int .i64 n,.sl rU64 ws] :: args) q):FnP prog f (setR n x :: args) q:=fun w y vs hy hv=>by
 match vs,hv with
 | u :: us,hv=>
  obtain ⟨⟨ws,h1,h2⟩,h3⟩:=hv.1
  exact h ws h1 w y (u :: us) hy h3 ⟨h2,hv.2⟩
theorem FnP.ofWords2 {f:FuncId} {args:List PV} {q:PV} {n m:Nat} {x z:List Int} (h:∀ ws us,ZA n ws x→ZA m us z→Zhi prog Zez ZfU f (.ref [.int .i64 n,.sl rU64 ws] :: .ref [.int .i64 m,.sl rU64 us] :: args) q):FnP prog f (setR n x :: setR m z :: args) q:=fun w y vs hy hv=>by
 match vs,hv with
 | u :: v :: us,hv=>
  obtain ⟨⟨ws,h1,h2⟩,h3⟩:=hv.1
  obtain ⟨⟨us',h4,h5⟩,h6⟩:=hv.2.1
  exact h ws us' h1 h4 w y (u :: v :: us) hy h3 ⟨h2,h5,hv.2.2⟩
theorem ZhQ {W:List Nat} {w w':World} {F F':Fp} (h:Stp W w F w' F') (k:Zez.p ZfU w (U F)):Zez.p ZfU w' (U F'):=Zez.mono h.ev k
theorem FnG.ofWords {f:FuncId} {args:List PV} {q:PV} {v:Value} {n:Nat} {x x':List Int} (h:∀ ws,ZA n ws x → ∃ ws',ZA n ws' x' ∧ FnG prog f 1 args [Zay v n ws] q (fun _=>[Zay v n ws'])):FnG prog f 1 args [Z0 v n x] q (fun _=>[Z0 v n x']):=fun w F vs hw hle hv hp=>by
 obtain ⟨ws,h1,h2,h3⟩:=ZQ.1 (hp 0 _ rfl)
 obtain ⟨ws',h4,hc⟩:=h ws h1
 refine (hc w F vs hw hle hv (fun i k hi=>by
  match i,hi with
  | 0,hi=>simp at hi;subst hi;exact h2)).mono ?_
 rintro e w' ⟨u,F',rfl,a1,a2,a3,a4,a5⟩
 refine ⟨u,F',rfl,a1,a2,a3,a4,fun i k hi=>?_⟩
 match i,hi with
 | 0,hi=>simp at hi;subst hi;exact ZQ.2 ⟨ws',h4,a5 0 _ rfl,ZhQ a2 h3⟩
theorem FnG.ofWords2 {f:FuncId} {args:List PV} {p1 q:PV} {v:Value} {n m:Nat} {x z x':List Int} (h:∀ ws us,ZA n ws x→ZA m us z → ∃ ws',ZA n ws' x' ∧ FnG prog f 1 (p1 :: .ref [.int .i64 m,.sl rU64 us] :: args) [Zay v n ws] q (fun _=>[Zay v n ws'])):FnG prog f 1 (p1 :: setR m z :: args) [Z0 v n x] q (fun _=>[Z0 v n x']):=fun w F vs hw hle hv hp=>by
 obtain ⟨ws,h1,h2,h3⟩:=ZQ.1 (hp 0 _ rfl)
 match vs,hv with
 | u1 :: u2 :: us,hv=>
  obtain ⟨⟨zs,k1,k2⟩,_⟩:=hv.2.1
  obtain ⟨ws',h4,hc⟩:=h ws zs h1 k1
  refine (hc w F (u1 :: u2 :: us) hw hle ⟨hv.1,k2,hv.2.2⟩ (fun i k hi=>by
   match i,hi with
   | 0,hi=>simp at hi;subst hi;exact h2)).mono ?_
  rintro e w' ⟨u,F',rfl,a1,a2,a3,a4,a5⟩
  refine ⟨u,F',rfl,a1,a2,a3,a4,fun i k hi=>?_⟩
  match i,hi with
  | 0,hi=>simp at hi;subst hi;exact ZQ.2 ⟨ws',h4,a5 0 _ rfl,ZhQ a2 h3⟩
theorem FnG.newSet {f:FuncId} {args:List PV} {q:PV} {n:Nat} {ws x:List Int} (hs:ZA n ws x) (h:FnG prog f 1 args [HP.star []] q (fun v=>[Zay v n ws])):FnG prog f 1 args [gH Zez ZfU] q (fun v=>[Z0 v n x]):=fun w F vs hw hle hv hp=>by
 obtain ⟨h1,h2⟩:=hp 0 _ rfl
 refine (h w F vs hw hle hv (fun i k hi=>by
  match i,hi with
  | 0,hi=>simp at hi;subst hi;exact h1)).mono ?_
 rintro e w' ⟨u,F',rfl,a1,a2,a3,a4,a5⟩
 refine ⟨u,F',rfl,a1,a2,a3,a4,fun i k hi=>?_⟩
 match i,hi with
 | 0,hi=>simp at hi;subst hi;exact ZQ.2 ⟨ws,hs,a5 0 _ rfl,ZhQ a2 h2⟩
theorem Zcz {v v':Value} {n n':Nat} {x x':List Int} {w w':World} {f0 f y y1 y':Ys} (h:(Z0 v n x).p w f0 y) (hev:Ev w y w' y') (k:(Z0 v' n' x').p w' f y1):(Z0 v' n' x').p w' f y':=by
 obtain ⟨_,_,_,h3⟩:=ZQ.1 h
 obtain ⟨ws,k1,k2,_⟩:=ZQ.1 k
 exact ZQ.2 ⟨ws,k1,ZeR _ _ _ _ _ _ _ k2,Zez.mono hev h3⟩
def Zbz (l:List Int) (i:Int):Int:=(l.find? fun x=>decide (i≤x)).getD (-1)
def orL (l:List Int) (n:Int) (o:List Int):List Int:=o.foldl (fun l x=>putL l n x true) l
def ZR (l o:List Int):List Int:=l.filter fun x=>!decide (x ∈ o)
theorem ZbW {l o:List Int} {n:Nat} {j:Int} (hl:Up n l):j ∈ orL l n o ↔ j ∈ l∨(j ∈ o∧0≤j∧j<n):=by
 unfold orL
 induction o generalizing l with
 | nil=>simp
 | cons x o ih=>
  rw [Ybd,ih (ZbC hl x true),ZaY]
  by_cases e:j=x
  ·subst e
   constructor
   ·rintro ((h | h) | h)
    ·exact absurd rfl h.1
    ·exact .inr ⟨by simp,h.2.2.1,h.2.2.2⟩
    ·exact .inr ⟨by simp [h.1],h.2⟩
   ·rintro (h | h)
    ·have:=hl.2 j h;exact .inl (.inr ⟨rfl,rfl,this.1,this.2⟩)
    ·exact .inl (.inr ⟨rfl,rfl,h.2.1,h.2.2⟩)
  ·simp [e]
theorem ZeO {n:Nat} {l:List Int} (h:Up n l) (o:List Int):Up n (orL l n o):=by
 unfold orL
 induction o generalizing l with
 | nil=>exact h
 | cons x o ih=>exact ih (ZbC h x true)
theorem Zcr {n:Nat} {l:List Int} (h:Up n l) (p:Int→Bool):Up n (l.filter p):=⟨h.1.filter p,fun i hi=>h.2 i (YH.1 hi).1⟩
theorem Zlb {j:Nat} (h:j<64):Nn ZhH j=((Lib.deBruijn64tab.getD j 0:Nat):Int):=by
 unfold ZhH
 have hl:j<Lib.deBruijn64tab.length:=h
 rw [nth_eq (by rw [YZ];exact hl),Ya3,Yaf,YN hl]
 rfl
theorem Zo4 {X:Nat} (hx:X<18446744073709551616) (h0:X≠0):∃ I:Nat,(IntKind.wrap .u64 (bits .and .u64 (X:Int) (IntKind.wrap .u64 (0 - (X:Int)))*285870213051353865)).fdiv (2 ^ min (58:Int).toNat (IntKind.bits .u64))=(I:Int)∧I<64∧IntKind.wrap .i64 (Nn ZhH I)=((Lib.ctz 64 X:Nat):Int):=by
 obtain ⟨hlow,hk⟩:=Lib.lowest_bit 64 X h0 hx
 obtain ⟨hi,htab⟩:=Lib.deBruijn64_at _ hk
 have e1:IntKind.wrap .u64 (0 - (X:Int))=((18446744073709551616 - X:Nat):Int):=by rw [Zbd];omega
 have e2:(2 ^ 64 - X:Nat)=18446744073709551616 - X:=rfl
 rw [e2] at hlow
 rw [e1,Zdc _ _ hx ow,hlow,Zbd]
 refine ⟨_,?_,hi,?_⟩
 ·rw [show min (58:Int).toNat (IntKind.bits .u64)=58 from rfl,Yaj _ (by decide)]
  generalize 2 ^ Lib.ctz 64 X=p
  omega
 ·rw [Zlb hi,htab,Zr ow]
theorem Zff {i j:Int} : ∀ {x:List Int},x.Pairwise (· < ·)→j ∈ x→i≤j→(∀ k ∈ x,i≤k→j≤k)→Zbz x i=j
 | a :: x,hx,hj,hij,hm=>by
  rw [Yq] at hx
  unfold Zbz
  rw [List.find?_cons]
  by_cases h:i≤a
  ·rw [Yy h]
   have h1:=hm a (by simp) h
   rcases Yh.1 hj with e | h2
   ·simp [e]
   ·have:=hx.1 j h2;omega
  ·rw [YW h]
   rcases Yh.1 hj with e | h2
   ·omega
   ·exact Zff hx.2 h2 hij fun k hk=>hm k (Yw _ hk)
theorem ZcV {i:Int} {x:List Int} (h:∀ k ∈ x,¬ i≤k):Zbz x i = -1:=by
 unfold Zbz
 rw [List.find?_eq_none.2 (by simpa using h)]
 rfl
theorem ZjU {n:Nat} {ws x:List Int} (h:ZA n ws x) {i:Int} (j:Nat) (h1:i≤j) (h2:bitAt ws j=true) (h3:∀ k:Nat,i≤k→k<j→bitAt ws k=false):Zbz x i=j:=by
 refine Zff h.up.1 ((h.mem j).1 h2) h1 fun k hk hik=>?_
 have hb:=h.up.2 k hk
 obtain ⟨K,rfl⟩:=Yz hb.1
 by_cases hlt:K<j
 ·have:=(h.mem K).2 hk
  rw [h3 K hik hlt] at this
  cases this
 ·omega
theorem Zly {n:Nat} {ws x:List Int} (h:ZA n ws x) {i:Int} (h3:∀ k:Nat,i≤k→bitAt ws k=false):Zbz x i = -1:=by
 refine ZcV fun k hk hik=>?_
 have hb:=h.up.2 k hk
 obtain ⟨K,rfl⟩:=Yz hb.1
 have:=(h.mem K).2 hk
 rw [h3 K hik] at this
 cases this
theorem ZoK {x:Int} (hx:0≤x∧x<18446744073709551616) (i:Int) (hi:0≤i∧i≤9223372036854775807):∃ X:Nat,IntKind.wrap .u64 (x.fdiv (2 ^ min (IntKind.wrap .u64 (bits .and .i64 i 63)).toNat (IntKind.bits .u64))*2 ^ min (IntKind.wrap .u64 (bits .and .i64 i 63)).toNat (IntKind.bits .u64))=(X:Int)∧X<18446744073709551616 ∧ ∀ t,X.testBit t=(decide (i.toNat % 64≤t) && x.toNat.testBit t):=by
 obtain ⟨A,rfl⟩:=Yz hx.1
 obtain ⟨I,rfl⟩:=Yz hi.1
 rw [and63 _ hi,ZI (by omega:0≤((I:Int) % 64)∧(I:Int) % 64≤_),Yb,Yb]
 have e1:min ((I:Int) % 64).toNat (IntKind.bits .u64)=I % 64:=by simp only [IntKind.bits];omega
 rw [e1,Yaj _ (by exact_mod_cast YA _)]
 have e2:(A:Int) / 2 ^ (I % 64)*2 ^ (I % 64)=((A / 2 ^ (I % 64)*2 ^ (I % 64):Nat):Int):=by norm_cast
 rw [e2]
 have hle:A / 2 ^ (I % 64)*2 ^ (I % 64)≤A:=Nat.div_mul_le_self _ _
 refine ⟨A / 2 ^ (I % 64)*2 ^ (I % 64),ZI ow,by omega,fun t=>?_⟩
 rw [Nat.testBit_mul_two_pow,Nat.testBit_div_two_pow]
 by_cases h:I % 64≤t
 ·simp [h]
 ·simp [h]
structure Zaq (ws:List Int) (I k X:Nat):Prop where
 hk:k<ws.length
 hX:X<18446744073709551616
 bit:∀ t,t<64→X.testBit t=(decide (I≤64*k+t) && bitAt ws (64*k+t))
 off:∀ j,I≤j→j<64*k→bitAt ws j=false
theorem Zaq.start {n:Nat} {ws:List Int} (h:ZP n ws) {I X:Nat} (hI:I<n) (hX:X<18446744073709551616) (hb:∀ t,X.testBit t=(decide (I % 64≤t) && (Nn ws (I / 64)).toNat.testBit t)):Zaq ws I (I / 64) X:=by
 have:=h.len
 refine ⟨by omega,hX,fun t ht=>?_,fun j h1 h2=>by omega⟩
 rw [hb t]
 unfold bitAt
 rw [show (64*(I / 64)+t) / 64=I / 64 by omega,show (64*(I / 64)+t) % 64=t by omega]
 congr 1
 exact decide_eq_decide.2 ow
theorem Zaq.zero {ws:List Int} {I k:Nat} (h:Zaq ws I k 0):∀ j,I≤j→j<64*(k+1)→bitAt ws j=false:=by
 intro j h1 h2
 by_cases h3:j<64*k
 ·exact h.off j h1 h3
 ·have:=h.bit (j - 64*k) ow
  rw [show 64*k+(j - 64*k)=j by omega,Yy h1,Yaz,Nat.zero_testBit] at this
  exact this.symm
theorem Zaq.next {n:Nat} {ws:List Int} (hr:ZP n ws) {I k:Nat} (h:Zaq ws I k 0) (hI:I<64*(k+1)) (hk:k+1<ws.length):Zaq ws I (k+1) (Nn ws (k+1)).toNat:=by
 have:=hr.wd (k+1)
 refine ⟨hk,by omega,fun t ht=>?_,h.zero⟩
 rw [Yy ow,Yaz]
 unfold bitAt
 rw [show (64*(k+1)+t) / 64=k+1 by omega,show (64*(k+1)+t) % 64=t by omega]
theorem Zi4 {X:Nat} (h0:X≠0) (hx:X<2 ^ 64):Lib.ctz 64 X<64∧X.testBit (Lib.ctz 64 X)=true ∧ ∀ t,t<Lib.ctz 64 X→X.testBit t=false:=by
 obtain ⟨m,hm,hk⟩:=Lib.ctzFrom_spec 64 X ow hx
 have e:Lib.ctz 64 X=Lib.ctzFrom 64 X:=by simp [Lib.ctz,h0]
 rw [e]
 generalize Lib.ctzFrom 64 X=c at hm hk
 subst hm
 refine ⟨hk,?_,fun t ht=>?_⟩
 ·rw [Nat.mul_comm,Nat.testBit_mul_two_pow]
  simp
 ·rw [Nat.mul_comm,Nat.testBit_mul_two_pow]
  simp
  intro;omega
theorem Zaq.found {n:Nat} {ws x:List Int} (hs:ZA n ws x) {I k X:Nat} {i:Int} (hi:(I:Int)=if i<0 then 0 else i) (h:Zaq ws I k X) (h0:X≠0):Zbz x i=64*(k:Int)+(Lib.ctz 64 X:Nat):=by
 obtain ⟨h1,h2,h3⟩:=Zi4 h0 h.hX
 have hb:=h.bit _ h1
 rw [h2,YaA,YB,Yn] at hb
 have e:=ZjU hs (i:=i) (64*k+Lib.ctz 64 X) (by split at hi <;> omega) hb.2 fun j hj1 hj2=>by
  have hIj:I≤j:=by split at hi <;> omega
  by_cases h4:j<64*k
  ·exact h.off j hIj h4
  ·have:=h.bit (j - 64*k) ow
   rw [h3 _ ow,show 64*k+(j - 64*k)=j by omega,Yy hIj,Yaz] at this
   exact this.symm
 rw [e];omega
theorem Zaq.none {n:Nat} {ws x:List Int} (hs:ZA n ws x) {I k:Nat} {i:Int} (hi:(I:Int)=if i<0 then 0 else i) (h:Zaq ws I k 0) (hk:k+1=ws.length):Zbz x i = -1:=
 Zly hs fun j hj=>by
  by_cases h4:j<64*(k+1)
  ·exact h.zero j (by split at hi <;> omega) h4
  ·exact Zkz ow
theorem Zjf {n:Nat} {ws x:List Int} (hs:ZA n ws x) {i:Int} (h:¬ (if i<0 then 0 else i)<(n:Int)):Zbz x i = -1:=
 ZcV fun k hk hik=>by
  have:=hs.up.2 k hk
  split at h <;> omega
theorem Up.len {n:Nat} {x:List Int} (h:Up n x):x.length≤n:=by
 have:∀ (x:List Int) (a:Int),x.Pairwise (· < ·)→(∀ i ∈ x,a≤i∧i<n)→(x.length:Int)≤max 0 (n - a):=by
  intro x
  induction x with
  | nil=>intro a _ _;simp;omega
  | cons b x ih=>
   intro a hp hb
   rw [Yq] at hp
   have h1:=hb b (by simp)
   have:=ih (b+1) hp.2 fun i hi=>⟨by have:=hp.1 i hi;omega,(hb i (by simp [hi])).2⟩
   simp only [Yx]
   omega
 have:=this x 0 h.1 h.2
 omega
def Zj2 (x:List Int) (k:Nat):Int:=if k<x.length then Nn x k else -1
theorem Zb7 {n:Nat} {x:List Int} (h:Up n x):Zbz x 0=Zj2 x 0:=by
 unfold Zj2
 match x,h with
 | [],_=>rfl
 | a :: x,h=>
  have:=h.2 a (by simp)
  simp [Zbz,this.1,Nn]
theorem Zc4 {n:Nat} {x:List Int} (h:Up n x) {k:Nat} (hk:k<x.length):Zbz x (Nn x k+1)=Zj2 x (k+1):=by
 have hp:=Ya8.1 h.1
 unfold Zj2
 split
 ·rename_i hk1
  refine Zff h.1 (nth_mem hk1) ?_ fun j hj hle=>?_
  ·rw [nth_eq hk,nth_eq hk1]
   have:=hp k (k+1) hk hk1 ow
   omega
  ·obtain ⟨i,hi,rfl⟩:=Ybg hj
   rw [nth_eq hk] at hle
   rw [nth_eq hk1]
   by_cases e:i=k+1
   ·subst e;exact Yak _
   ·by_cases h2:k+1<i
    ·have:=hp (k+1) i hk1 hi h2;omega
    ·by_cases e3:i=k
     ·subst e3;omega
     ·have:=hp i k hi hk ow;omega
 ·rename_i hk1
  refine ZcV fun j hj hle=>?_
  obtain ⟨i,hi,rfl⟩:=Ybg hj
  rw [nth_eq hk] at hle
  by_cases e3:i=k
  ·subst e3;omega
  ·have:=hp i k hi hk ow;omega
theorem ZbF {n:Nat} {x:List Int} (h:Up n x) {k:Nat} : (0≤Zj2 x k ↔ k<x.length):=by
 unfold Zj2
 split
 ·rename_i hk
  have:=h.2 _ (nth_mem hk)
  simp [hk,this.1]
 ·rename_i hk;simp [hk]
theorem Zop {n:Nat} {x:List Int} {v:Value} {w:World} {y:Ys} (h:(setR n x).p v w y):n≤65536∧Up n x:=by
 obtain ⟨⟨ws,h,_⟩,_⟩:=h
 exact ⟨h.ok.hi,h.up⟩
theorem Sat.setRup {B:Zap} {E:En} {a:Act} {w:World} {F:Fp} {n:Nat} {x:List Int} (h:Sat B E a w F) {i:Nat} (hl:Go.Gm.look E.s i=some (.pv (setR n x))):n≤65536∧Up n x:=Zop (h.s i _ hl)
theorem Sat.setHup {B:Zap} {E:En} {a:Act} {w:World} {F:Fp} {v:Value} {n:Nat} {x:List Int} (h:Sat B E a w F) {i:Nat} (hl:Go.Gm.look E.r i=some (RS.hp (Z0 v n x))):n≤65536∧Up n x:=Zoj (h.r i _ hl)
theorem ZpT (X:Nat) (hX:X<18446744073709551616):Zhi prog Zez ZfU 107 [.int .u64 (X:Int)] (.int .i64 ((Lib.ctz 64 X:Nat):Int)):=by
 refine Zhi.mk func107 V ntmps107 V ?_
 intro B a w F J hfr G
 refine Ya (rZ G (qI qZ) J [2,0] [9,0] fun G=>(Ya (Ya ?_)))
 refine rZ G (qR rr (qf (o_eql .t qi) r1 qz qZ)) J [4,2,0] [9,0] fun G=>?_
 refine Zc G V (fun hc0=>?_) (fun hc0=>?_)
 ·have hg:(64:Int)=((Lib.ctz 64 X:Nat):Int):=by simp at hc0;subst hc0;rfl
  refine Ya (rZ G (qI qZ) J [2,0] [9,0] fun G=>(Yl (Zw ?_)))
  refine Zz hfr G V V V (.int hg)
 have h0:X≠0:=by intro e;subst e;simp at hc0
 obtain ⟨I,e1,hI,hg⟩:=Zo4 hX h0
 clear hc0
 refine Yg (Za (Ya (Zb G (qR rr (qR rr (qf (ZpE .t) r1 qz (qf (o_and .t .t) r2 qz (qf (Zji .t qi) r1 qz (qf (Zb4 .t qi (by decide)) r1 qz (qf (Zfn (tab:=ZhH) (fc:=(fun c=>PV.int .u8 c)) 9 underlying155 kr V .t (by rw [e1];exact YaT _) (by rw [e1];exact_mod_cast hI)) r1 r1 (qf (oR false 1 .t) r1 qz (qf (o_conv YbG kr .t) r1 qz (qO rr qZ)))))))))) J [2] [9,0] V V fun a w F G=>?_)))
 try simp only [Yb] at G
 rw [e1] at G
 try simp only [Yb] at G
 refine Za (Yl (Zz hfr G V V V (.int hg)))
theorem ZoF (n:Nat) (ws x:List Int) (hs:ZA n ws x) (i:Int):Zhi prog Zez ZfU 80 [.ref [.int .i64 n,.sl rU64 ws],.int .i64 i] (.int .i64 (Zbz x i)):=by
 refine Zhi.mk func80 V ntmps80 V ?_
 intro B a w F J hfr G
 refine Ya (rZ G (qI qZ) J [4,1,0] [9,0] fun G=>Ya ?_)
 refine rZ G (qR rr (qf (Zhx .t qi) r1 qz (qO rr qZ))) J [4,1,0] [9,0] fun G=>(Ya (Ya ?_))
 refine rZ G (qR rr (qR rr (qf (oP (Zhn n _ _) func52 (Args.two .t .t)) r2 qz (qf (o_not .t) r1 qz qZ)))) J [12,4,1,0] [9,0] fun G=>?_
 refine Zc G V (fun hc0=>?_) (fun hc0=>?_)
 ·have hg:Zbz x i = -1:=Zjf hs (by intro h;simp at hc0;split at h <;> split at hc0 <;> omega)
  refine Ya (rZ G (qI qZ) J [4,1,0] [9,0] fun G=>(Yl (Zw ?_)))
  refine Zz hfr G V V V (.int (by first | exact hg.symm | (rw [hg];done)))
 have hmx:0≤(if i<0 then 0 else i)∧(if i<0 then 0 else i)<(n:Int):=by simpa using hc0
 generalize hI0:(if i<0 then 0 else i)=i0 at G hmx
 obtain ⟨I,rfl⟩:=Yz hmx.1
 have hIn:I<n:=by omega
 have hhi:=hs.ok.hi
 have hlen:=hs.ok.len
 have e6:((I:Int)).fdiv (2 ^ min (6:Int).toNat (IntKind.bits .i64))=((I / 64:Nat):Int):=by rw [shr6];omega
 obtain ⟨X0,ex,hX0,hb0⟩:=ZoK (hs.ok.wd (I / 64)) (I:Int) ow
 rw [Yb] at hb0
 refine Yg (Za (Ya (Zb G (qR rr (qf (Zb4 .t qi (by decide)) r1 qz (qO rr qZ))) J [5,4,1,0] [9,0] V V fun a w F G=>?_)))
 rw [e6] at G
 refine Za (Ya (Zb G (qR rr (qf (o_nilCheck_ref .t) r1 qz (qf (oG 1 .t) r1 qz (qf (oR false 1 .t) r1 qz (qR rr (qy 1 YbD r2 (qf (oR false 1 .t) r1 qz (qR rr (qf (o_and .t qi) r1 qz (qf (o_conv YbF kr .t) r1 qz (qf (Zb4 .t .t (u64_nonneg _)) r2 qz (qR rr (qf (o_and .t qi) r1 qz (qf (o_conv YbF kr .t) r1 qz (qf (o_shl .t .t (u64_nonneg _)) r2 qz (qO rr qZ)))))))))))))))) J [6,5,4,0] [9,0] V V fun a w F G=>?_))
 try simp only [Yb] at G
 rw [ex] at G
 refine Za (Ya (Yk (Zl (σ:=Nat×Nat) [0,4] [0,9] (fun s=>[(5,.pv (.int .i64 (s.1:Int))),(6,.pv (.int .u64 (s.2:Int)))]) (fun s=>[]) (fun s=>Zaq ws I s.1 s.2∧I<64*(s.1+1)) (fun s=>ws.length - s.1) ((I / 64),(X0)) G ⟨rfl,rfl,rfl,rfl,tv⟩ ⟨rfl,rfl,tv⟩ ⟨Zaq.start hs.ok hIn hX0 hb0,by omega⟩ ?_)))
 clear G;intro s a w F hC G
 obtain ⟨k,X⟩:=s
 try dsimp only at hC
 obtain ⟨F,G⟩:=G.nM [6,5,4,0] [9,0]
 try dsimp only at G
 obtain ⟨hq,hIk⟩:=hC
 have hkl:=hq.hk
 refine Ya (Ya (rZ G (qR rr (qf (o_eql .t qi) r1 qz qZ)) J [31,6,5,4,0] [9,0] fun G=>?_))
 refine Zc G V (fun hc1=>?_) (fun hc1=>?_)
 ·have hX:X=0:=by simpa using hc1
  subst hX
  refine Yg (Za (Yk (Ya (Zb G (qR rr (qp r1 (qO rr qZ))) J [6,5,4,0] [9,0] V V fun a w F G=>?_))))
  rw [Zf ow] at G
  refine Za (Ya (Ya (rZ G (qR rr (qR rr (qf (o_nilCheck_ref .t) r1 qz (qf (oG 1 .t) r1 qz (qf (oR false 1 .t) r1 qz (qu YbD r1 (qf (o_eql .t .t) r2 qz qZ))))))) J [40,6,5,4,0] [9,0] fun G=>?_)))
  refine Zc G V (fun hc2=>?_) (fun hc2=>?_)
  ·have hg:=hq.none hs hI0.symm (by simp at hc2;omega)
   refine Ya (rZ G (qI qZ) J [6,5,4,0] [9,0] fun G=>(Yl (Zw (Z6 (Zw (Z6 (Zw ?_)))))))
   refine Zz hfr G V V V (.int (by first | exact hg.symm | (rw [hg];done)))
  have hk1:k+1<ws.length:=by simp at hc2;omega
  refine Yg (Za (Zb G (qR rr (qf (o_nilCheck_ref .t) r1 qz (qf (oG 1 .t) r1 qz (qf (oR false 1 .t) r1 qz (qR rr (qf (o_indexAddr_sl (sz:=1) (.mk YbD kr) (by intro x;rfl) .t .t (by first | assumption | omega) (by first | assumption | omega)) r2 qz (qf (oR false 1 .t) r1 qz (qO rr qZ)))))))) J [6,5,4,0] [9,0] V V fun a w F G=>?_))
  try simp only [Yb] at G
  refine Zi (Za ?_)
  replace G:=G.ent (i:=6) (s':=.pv (.int .u64 (((Nn ws (k+1)).toNat:Nat):Int))) V (.int (by have:=hs.ok.wd (k+1);omega))
  obtain ⟨F,G⟩:=G.nM [4,0,6,5] [9,0]
  exact ⟨((k+1),_),F,⟨hq.next hs.ok hIk ow,by omega⟩,G,by omega⟩
 have hX:X≠0:=by simpa using hc1
 have hg:=hq.found hs hI0.symm hX
 refine YI (Zm (Zm (Zu (Za (Ya (Zb G (qR rr (qf (o_shl .t qi (by decide)) r1 qz (qR rr (qf (Zib 9 (ZpT X hq.hX) func107 V kr (Args.one .t)) r1 r1 (qf (o_add .t .t) r2 qz (qO rr qZ)))))) J [4] [9,0] V V fun a w F G=>?_))))))
 rw [show IntKind.wrap .i64 ((k:Int)*2 ^ min (6:Int).toNat (IntKind.bits .i64))=64*(k:Int) by rw [Zr (by simp only [show min (6:Int).toNat (IntKind.bits .i64)=6 from rfl];omega)];simp only [show min (6:Int).toNat (IntKind.bits .i64)=6 from rfl];omega,Zr (by have:=(Zi4 hX hq.hX).1;omega),← hg] at G
 clear hg
 have hg:Zbz x i=Zbz x i:=rfl
 refine Za (Yl (Zz hfr G V V V (.int (by first | exact hg.symm | (rw [hg];done)))))
theorem ZeL (n:Nat) (x:List Int) (i:Int):FnP prog 80 [setR n x,.int .i64 i] (.int .i64 (Zbz x i)):=FnP.ofWords fun ws hs=>ZoF n ws x hs i
theorem ZpD (n:Nat) (x:List Int):FnP prog 53 [setR n x] (.int .i64 n):=FnP.ofWords fun ws hs=>(ZhY n _).glob
theorem hasS_c (n:Nat) (x:List Int) (i:Int):FnP prog 26 [setR n x,.int .i64 i] (.bool (decide (i ∈ x))):=FnP.ofWords fun ws hs=>by rw [← hs.in i];exact (Zn6 n ws hs.ok i).glob
theorem list_c (n:Nat) (x:List Int):FnP prog 58 [setR n x] (.sl Zk x):=by
 refine FnP.mk func58 V ntmps58 V fun B a w F J hfr G=>?_
 have hup:=Sat.setRup G (i:=0) rfl
 have hlen:=hup.2.len
 refine Ya (rZ G (qC qZ) J [2,0] [0] fun G=>Ya ?_)
 refine rZ G (qC qZ) J [3,2,0] [0] fun G=>(Ya (Ya ?_))
 refine Zb G (qR rr (qf (oP (ZeL n x 0) func80 (Args.two .t qi)) r1 qz (qO rr qZ))) J [4,3,2,0] [0] V V fun a w F G=>?_
 rw [Zb7 hup.2] at G
 refine Za (Yk ?_)
 replace G:=G.fresh 50 rfl
 replace G:=G.turn 50 V (Z1 (T:=3) (sz:=1) (R:=Zk))
 refine Zl (σ:=Nat×Value) [0,2] [0] (fun s=>[(3,.pv (.is s.2)),(4,.pv (.int .i64 (Zj2 x s.1)))]) (fun s=>[(50,.ob (.val s.2) (Zo 3 1 Zk (x.take s.1)))]) (fun s=>s.1≤x.length) (fun s=>x.length - s.1) ((0),(.slice none 0 0)) G ⟨rfl,rfl,rfl,rfl,tv⟩ ⟨rfl,rfl,tv⟩ (YA _) ?_
 clear G;intro s a w F hC G
 obtain ⟨k,v⟩:=s
 try dsimp only at hC
 obtain ⟨F,G⟩:=G.nM [4,3,2,0] [50,0]
 try dsimp only at G
 have hk:k≤x.length:=hC
 refine Ya (Ya (rZ G (qR rr (qf (Zb6 .t qi) r1 qz qZ)) J [8,4,3,2,0] [50,0] fun G=>?_))
 refine Zc G V (fun hc0=>?_) (fun hc0=>?_)
 ·have hkl:k<x.length:=(ZbF hup.2).1 (by simpa using hc0)
  rw [show Zj2 x k=Nn x k from Yf hkl] at G
  have hxk:=hup.2.2 _ (nth_mem hkl)
  refine Yg (Za (Ya (Yk (Ze G (qR rr (qR rr (qf (o_buildSliceE (sz:=1) (zs:=[.int .i64 0]) (r:=[(0,.tmp 14)]) (l:=[_]) YbA kr kr kr kr V V (.one V .t one_int kr .nil) V) r1 qz (qf (ZB (sz:=1) (bs:=8) 50 (.mk' YbA kr kr) (by intro x;rfl) .is (.arr (l':=[Nn x k]) .t) (by simp only [Ym,Yx,YS];omega) (by decide)) ⟨rfl,rfl,tv⟩ ⟨rfl,tv⟩ (qO rr qZ))))) J [4,3,2,0] [50,0] (fun _=>rfl) (fun _=>rfl) fun τ a w F G=>?_))))
  try dsimp only [RS.sub,SF.sub,CF.sub,csub,Anc.sub,List.map,Zh,xL,xM,Nat.reduceAdd,xD,xE,xT,xU,xC,xN,zCF] at G
  generalize τ 16=v16 at G
  refine Zi (Za (Zb G (qR rr (qR rr (qp r1 (qf (oP (ZeL n x _) func80 (Args.two .t .t)) r2 qz (qO rr qZ))))) J [4,3,2,0] [50,0] V V fun a w F G=>?_))
  rw [Zr ow,Zc4 hup.2 hkl] at G
  refine Za ?_
  rw [Zcb hkl] at G
  obtain ⟨F,G⟩:=G.nM [2,0,4,3] [0,50]
  exact ⟨((k+1),_),F,(by show k+1≤x.length;omega),G,(by show x.length - (k+1)<x.length - k;omega)⟩
 have hkl:k=x.length:=by have:=(not_congr (ZbF hup.2)).1 (by simpa using hc0);omega
 rw [hkl,Yac] at G
 refine YI (Zm (Zm (Zu (Za (Ya (rZ G (qR rr (qO rr qZ)) J [2] [50,0] fun G=>Yl ?_))))))
 obtain ⟨F,G⟩:=G.give 50 2 V rfl
 refine Zz hfr G V V V (.sl V)
theorem Zoo (b n:Nat) (x:List Int):FnG prog 58 1 [.is (.pointer (some ⟨b,0,none⟩))] [Z0 (.pointer (some ⟨b,0,none⟩)) n x] (.sl Zk x) (fun _=>[Z0 (.pointer (some ⟨b,0,none⟩)) n x]):=by
 refine FnG.mk func58 V ntmps58 V kr fun B F0 a w F J hG G=>?_
 have hup:=Sat.setHup G (i:=1) rfl
 have hlen:=hup.2.len
 refine Ya (rZ G (qC qZ) J [2,0] [1,0] fun G=>Ya ?_)
 refine rZ G (qC qZ) J [3,2,0] [1,0] fun G=>(Ya (Ya ?_))
 refine Zb G (qR rr (qf (OpC.lend 1 [5] setH_lend (oP (ZeL n x 0) func80 (Args.two .t qi)) ⟨rfl,tv⟩ (.pv (fun _ _ _ _ h=>h)) trivial (by rfl)) r1 r1 (qO rr qZ))) J [4,3,2,0] [1,0] V V fun a w F G=>?_
 rw [Zb7 hup.2] at G
 refine Za (Yk ?_)
 replace G:=G.fresh 50 rfl
 replace G:=G.turn 50 V (Z1 (T:=3) (sz:=1) (R:=Zk))
 refine Zl (σ:=Nat×Value) [0,2] [0,1] (fun s=>[(3,.pv (.is s.2)),(4,.pv (.int .i64 (Zj2 x s.1)))]) (fun s=>[(50,.ob (.val s.2) (Zo 3 1 Zk (x.take s.1)))]) (fun s=>s.1≤x.length) (fun s=>x.length - s.1) ((0),(.slice none 0 0)) G ⟨rfl,rfl,rfl,rfl,tv⟩ ⟨rfl,rfl,rfl,tv⟩ (YA _) ?_
 clear G;intro s a w F hC G
 obtain ⟨k,v⟩:=s
 try dsimp only at hC
 obtain ⟨F,G⟩:=G.nM [4,3,2,0] [50,1,0]
 try dsimp only at G
 have hk:k≤x.length:=hC
 refine Ya (Ya (rZ G (qR rr (qf (Zb6 .t qi) r1 qz qZ)) J [8,4,3,2,0] [50,1,0] fun G=>?_))
 refine Zc G V (fun hc0=>?_) (fun hc0=>?_)
 ·have hkl:k<x.length:=(ZbF hup.2).1 (by simpa using hc0)
  rw [show Zj2 x k=Nn x k from Yf hkl] at G
  have hxk:=hup.2.2 _ (nth_mem hkl)
  refine Yg (Za (Ya (Yk (Ze G (qR rr (qR rr (qf (o_buildSliceE (sz:=1) (zs:=[.int .i64 0]) (r:=[(0,.tmp 14)]) (l:=[_]) YbA kr kr kr kr V V (.one V .t one_int kr .nil) V) r1 qz (qf (ZB (sz:=1) (bs:=8) 50 (.mk' YbA kr kr) (by intro x;rfl) .is (.arr (l':=[Nn x k]) .t) (by simp only [Ym,Yx,YS];omega) (by decide)) ⟨rfl,rfl,tv⟩ ⟨rfl,tv⟩ (qO rr qZ))))) J [4,3,2,0] [50,1,0] (fun _=>rfl) (fun _=>rfl) fun τ a w F G=>?_))))
  try dsimp only [RS.sub,SF.sub,CF.sub,csub,Anc.sub,List.map,Zh,xL,xM,Nat.reduceAdd,xD,xE,xT,xU,xC,xN,zCF] at G
  generalize τ 16=v16 at G
  refine Zi (Za (Zb G (qR rr (qR rr (qp r1 (qf (OpC.lend 1 [9] setH_lend (oP (ZeL n x _) func80 (Args.two .t .t)) ⟨rfl,tv,tv⟩ (.pv (fun _ _ _ _ h=>h)) trivial (by rfl)) r2 r1 (qO rr qZ))))) J [4,3,2,0] [50,1,0] V V fun a w F G=>?_))
  rw [Zr ow,Zc4 hup.2 hkl] at G
  refine Za ?_
  rw [Zcb hkl] at G
  obtain ⟨F,G⟩:=G.nM [2,0,4,3] [1,0,50]
  exact ⟨((k+1),_),F,(by show k+1≤x.length;omega),G,(by show x.length - (k+1)<x.length - k;omega)⟩
 have hkl:k=x.length:=by have:=(not_congr (ZbF hup.2)).1 (by simpa using hc0);omega
 rw [hkl,Yac] at G
 refine YI (Zm (Zm (Zu (Za (Ya (rZ G (qR rr (qO rr qZ)) J [2] [50,1,0] fun G=>Yl ?_))))))
 obtain ⟨F,G⟩:=G.give 50 2 V rfl
 refine Zy hG G V (.tmp V .nil) (.one (.sl V)) rfl
theorem Zpb (b n:Nat) (x:List Int) (i:Int) (on:Bool):FnG prog 25 1 [.is (.pointer (some ⟨b,0,none⟩)),.int .i64 i,.bool on] [Z0 (.pointer (some ⟨b,0,none⟩)) n x] (.bool (!decide (x=putL x n i on))) (fun _=>[Z0 (.pointer (some ⟨b,0,none⟩)) n (putL x n i on)]):=FnG.ofWords fun ws hs=>⟨_,hs.set i on,by rw [← hs.setB];exact set_c b n ws i on⟩
theorem Ze1 (m:Int):FnG prog 21 1 [.int .i64 m] [gH Zez ZfU] PV.ptr (fun v=>[Z0 v (rowN m) []]):=FnG.newSet (ZA.zero m) (Znl m)
def trimW (n:Nat) (c:Int):Int:=if n % 64=0 then c else ((c.toNat % 2 ^ (n % 64):Nat):Int)
def Zbu (n:Nat) (ws:List Int):List Int:=ws.set (ws.length - 1) (trimW n (Nn ws (ws.length - 1)))
theorem ZdT (n:Nat) (ws:List Int):(Zbu n ws).length=ws.length:=by simp [Zbu]
theorem Zhc {n:Nat} {ws:List Int} (hl:ws.length=(n+63) / 64) (j:Nat):bitAt (Zbu n ws) j=(decide (j<n) && bitAt ws j):=by
 unfold bitAt Zbu
 by_cases hj:j / 64<ws.length
 ·rw [ZaX hj]
  by_cases he:ws.length - 1=j / 64
  ·rw [Yf he,he]
   unfold trimW
   by_cases h0:n % 64=0
   ·rw [Yf h0,Yy ow,Yaz]
   ·rw [Ye h0,Yb,Nat.testBit_mod_two_pow]
    congr 1
    exact decide_eq_decide.2 ow
  ·rw [Ye he,Yy ow,Yaz]
 ·rw [Za3 (by rw [YM];omega),Za3 ow]
  simp
theorem ZP.trim {n:Nat} {ws:List Int} (h:ZP n ws):ZP n (Zbu n ws):=by
 refine ⟨h.hi,by rw [ZdT];exact h.len,fun k=>?_⟩
 by_cases hk:k<ws.length
 ·unfold Zbu
  rw [ZaX hk]
  split
  ·unfold trimW
   have:=h.wd (ws.length - 1)
   split
   ·exact this
   ·have hm:=Nat.mod_le (Nn ws (ws.length - 1)).toNat (2 ^ (n % 64))
    omega
  ·exact h.wd k
 ·rw [Za3 (by rw [ZdT];omega)];omega
def ZoH (len:Nat) (f:Nat→Int):List Int:=(List.range len).map f
theorem ZaV (len:Nat) (f:Nat→Int):(ZoH len f).length=len:=by simp [ZoH]
theorem Zdv {len:Nat} {f:Nat→Int} {i:Nat} (h:i<len):Nn (ZoH len f) i=f i:=by
 rw [nth_eq (by rw [ZaV];exact h)];simp [ZoH]
theorem ZP.map {n len:Nat} (h1:n≤65536) (h2:len=(n+63) / 64) {f:Nat→Int} (h:∀ i,i<len→0≤f i∧f i<18446744073709551616):ZP n (ZoH len f):=by
 refine ⟨h1,by rw [ZaV];exact h2,fun k=>?_⟩
 by_cases hk:k<len
 ·rw [Zdv hk];exact h k hk
 ·rw [Za3 (by rw [ZaV];omega)];omega
theorem ZjJ {len:Nat} {f:Nat→Int} {j:Nat} (h:j / 64<len):bitAt (ZoH len f) j=(f (j / 64)).toNat.testBit (j % 64):=by
 unfold bitAt;rw [Zdv h]
theorem ZkU {A B:List Int} {i:Nat} {c:Int} (hl:A.length=B.length) (hi:i<B.length) (hc:Nn A i=c):(A.take i++B.drop i).set i c=A.take (i+1)++B.drop (i+1):=by
 rw [List.set_append_right i c (by rw [Ym];omega),ZE ow,hc,Yav,Zfg hi,Ym,show i - min i A.length=0 by omega]
 rfl
structure ZgO (f:Int→Int→Int) (g:Bool→Bool→Bool):Prop where
 rg:∀ a b,0≤a∧a<18446744073709551616→0≤b∧b<18446744073709551616→0≤f a b∧f a b<18446744073709551616
 bit:∀ a b,0≤a∧a<18446744073709551616→0≤b∧b<18446744073709551616 → ∀ t,t<64→(f a b).toNat.testBit t=g (a.toNat.testBit t) (b.toNat.testBit t)
theorem Zgs {x:Int} (h:0≤x∧x<18446744073709551616) (t:Nat):(BitVec.ofInt 64 x).getLsbD t=x.toNat.testBit t:=by
 obtain ⟨X,rfl⟩:=Yz h.1
 have h1:(BitVec.ofInt 64 (X:Int)).toNat=X:=by rw [Yap];omega
 rw [← BitVec.testBit_toNat,h1];rfl
theorem ZgB (b:BitVec 64):IntKind.wrap .u64 ((b.toNat:Nat):Int)=((b.toNat:Nat):Int):=ZI (by have:=b.isLt;omega)
theorem Zi0 {f:Int→Int→Int} {g:Bool→Bool→Bool} (h:BitVec 64→BitVec 64→BitVec 64) (e:∀ a b,f a b=IntKind.wrap .u64 (((h (BitVec.ofInt 64 a) (BitVec.ofInt 64 b)).toNat:Nat):Int)) (hb:∀ x y t,t<64→(h x y).getLsbD t=g (x.getLsbD t) (y.getLsbD t)):ZgO f g:=by
 refine ⟨fun a b _ _=>?_,fun a b ha hb' t ht=>?_⟩
 ·rw [e,ZgB]
  have:=(h (BitVec.ofInt 64 a) (BitVec.ofInt 64 b)).isLt
  omega
 ·rw [e,ZgB,Yb,BitVec.testBit_toNat,hb _ _ t ht,Zgs ha,Zgs hb']
theorem Zio:ZgO (fun a b=>bits .or .u64 a b) (fun p q=>p || q):=Zi0 (fun x y=>x ||| y) (fun _ _=>rfl) (fun x y t _=>by simp)
theorem Zde:ZgO (fun a b=>bits .andNot .u64 a b) (fun p q=>p && !q):=Zi0 (fun x y=>x &&& ~~~y) (fun _ _=>rfl) (fun x y t ht=>by simp [ht])
def Znr (f:Int→Int→Int) (ws us:List Int):List Int:=ZoH ws.length fun i=>f (Nn ws i) (Nn us i)
def Zad (f:Int→Int→Int) (n:Nat) (ws us:List Int):List Int:=Zbu n (Znr f ws us)
theorem ZV (f:Int→Int→Int) (n:Nat) (ws us:List Int):(Zad f n ws us).length=ws.length:=by unfold Zad Znr;rw [ZdT,ZaV]
theorem Zlc {f:Int→Int→Int} {n:Nat} {ws us:List Int} {i:Nat} (h:i<ws.length) (hne:i+1≠ws.length):Nn (Zad f n ws us) i=f (Nn ws i) (Nn us i):=by
 unfold Zad Zbu
 rw [ZaX (by unfold Znr;rw [ZaV];exact h),Ye (by unfold Znr;rw [ZaV];omega)]
 exact Zdv h
theorem Zjv {f:Int→Int→Int} {n:Nat} {ws us:List Int} {i:Nat} (h:i+1=ws.length):Nn (Zad f n ws us) i=trimW n (f (Nn ws i) (Nn us i)):=by
 have hl:(Znr f ws us).length=ws.length:=by unfold Znr;rw [ZaV]
 unfold Zad Zbu
 rw [ZaX (by rw [hl];omega),Yf (by rw [hl];omega),hl,show ws.length - 1=i by omega]
 unfold Znr
 rw [Zdv ow]
def ZeN (f:Int→Int→Int) (n:Nat) (ws us:List Int) (i:Nat):List Int:=(Zad f n ws us).take i++ws.drop i
theorem ZkJ (f:Int→Int→Int) (n:Nat) (ws us:List Int):ZeN f n ws us 0=ws:=by simp [ZeN]
theorem Zmk (f:Int→Int→Int) (n:Nat) (ws us:List Int):ZeN f n ws us ws.length=Zad f n ws us:=by simp [ZeN,YL (Nat.le_of_eq (ZV f n ws us))]
theorem Zbi {f:Int→Int→Int} {n:Nat} {ws us:List Int} {i:Nat} (h:i≤ws.length):(ZeN f n ws us i).length=ws.length:=by
 unfold ZeN;rw [Yc,Ym,YJ,ZV];omega
theorem ZmU {f:Int→Int→Int} {n:Nat} {ws us:List Int} {i:Nat} (h:i<ws.length):Nn (ZeN f n ws us i) i=Nn ws i:=by
 have hl:=ZV f n ws us
 rw [nth_eq (by rw [Zbi ow];exact h),nth_eq h]
 unfold ZeN
 rw [List.getElem_append_right (by rw [Ym];omega)]
 simp only [Ym,List.getElem_drop]
 congr 1
 omega
theorem ZiI {f:Int→Int→Int} {n:Nat} {ws us:List Int} {i:Nat} (h:i<ws.length) (hne:i+1≠ws.length):(ZeN f n ws us i).set i (f (Nn ws i) (Nn us i))=ZeN f n ws us (i+1):=ZkU (ZV f n ws us) h (Zlc h hne)
theorem Zf5 {f:Int→Int→Int} {n:Nat} {ws us:List Int} {i:Nat} (h:i+1=ws.length):Zbu n ((ZeN f n ws us i).set i (f (Nn ws i) (Nn us i)))=ZeN f n ws us (i+1):=by
 have hl:=Zbi (f:=f) (n:=n) (us:=us) (ws:=ws) (i:=i) ow
 unfold Zbu
 rw [YM,hl,show ws.length - 1=i by omega,ZaX (by rw [hl];omega),Yf rfl,List.set_set]
 exact ZkU (ZV f n ws us) ow (Zjv h)
theorem Zcs {f:Int→Int→Int} {n:Nat} {ws us:List Int} {i:Nat} (h:i<ws.length):Nn (ZeN f n ws us (i+1)) i=Nn (Zad f n ws us) i:=by
 have hl:=ZV f n ws us
 rw [nth_eq (by rw [Zbi ow];exact h),nth_eq (by rw [hl];exact h)]
 unfold ZeN
 rw [Yaq (by rw [Ym];omega)]
 simp
theorem ZP.of_words {n:Nat} {ws us:List Int} (h:ZP n ws) (hl:us.length=ws.length) (hw:∀ k,k<ws.length→0≤Nn us k∧Nn us k<18446744073709551616):ZP n us:=by
 refine ⟨h.hi,by rw [hl];exact h.len,fun k=>?_⟩
 by_cases hk:k<ws.length
 ·exact hw k hk
 ·rw [Za3 ow];omega
theorem ZfE {f:Int→Int→Int} {g:Bool→Bool→Bool} (hf:ZgO f g) {n:Nat} {ws us:List Int} (h:ZP n ws) (hu:∀ k,0≤Nn us k∧Nn us k<18446744073709551616):ZP n (Zad f n ws us):=
 ZP.trim (ZP.map h.hi h.len fun i _=>hf.rg _ _ (h.wd i) (hu i))
theorem ZlG {f:Int→Int→Int} {g:Bool→Bool→Bool} (hf:ZgO f g) {n:Nat} {ws us:List Int} (h:ZP n ws) (hu:∀ k,0≤Nn us k∧Nn us k<18446744073709551616) {i:Nat} (hi:i≤ws.length):ZP n (ZeN f n ws us i):=by
 have he:=ZfE hf h hu
 have hl:=ZV f n ws us
 refine h.of_words (Zbi hi) fun k hk=>?_
 rw [nth_eq (by rw [Zbi hi];exact hk)]
 unfold ZeN
 by_cases hki:k<i
 ·rw [Yaq (by rw [Ym];omega),List.getElem_take]
  have:=he.wd k
  rwa [nth_eq ow] at this
 ·rw [List.getElem_append_right (by rw [Ym];omega),List.getElem_drop]
  simp only [Ym]
  have:=h.wd k
  rw [nth_eq hk] at this
  have e:i+(k - min i (Zad f n ws us).length)=k:=by omega
  simp only [e]
  exact this
theorem ZP.setN {n:Nat} {ws:List Int} (h:ZP n ws) (i:Nat) {c:Int} (hc:0≤c∧c<18446744073709551616):ZP n (ws.set i c):=
 h.of_words (by simp) fun k hk=>by
  rw [ZaX hk]
  split
  ·exact hc
  ·exact h.wd k
theorem Zg0 {f:Int→Int→Int} {g:Bool→Bool→Bool} (hf:ZgO f g) {n:Nat} {ws us:List Int} (h:ZP n ws) (hu:∀ k,0≤Nn us k∧Nn us k<18446744073709551616) (j:Nat):bitAt (Zad f n ws us) j=(decide (j<n) && g (bitAt ws j) (bitAt us j)):=by
 unfold Zad Znr
 rw [Zhc (by rw [ZaV];exact h.len)]
 by_cases hj:j<n
 ·rw [Yy hj,Yaz,Yaz,ZjJ (by have:=h.len;omega),hf.bit _ _ (h.wd _) (hu _) _ (YaZ _ (by decide))]
  rfl
 ·rw [YW hj,Ybt,Ybt]
theorem ZA.each {f:Int→Int→Int} {g:Bool→Bool→Bool} (hf:ZgO f g) {n m:Nat} {ws us x y x':List Int} (h:ZA n ws x) (k:ZA m us y) (hx:Up n x') (hm:∀ i:Int,0≤i→i<n→(g (decide (i ∈ x)) (decide (i ∈ y))=true ↔ i ∈ x')):ZA n (Zad f n ws us) x':=by
 refine ZA.mk' (ZfE hf h.ok k.ok.wd) (fun j hj=>by rw [Zg0 hf h.ok k.ok.wd,YW ow,Ybt]) hx fun j hj=>?_
 rw [Zg0 hf h.ok k.ok.wd,Yy hj,Yaz,← hm (j:Int) ow ow]
 have e1:bitAt ws j=decide ((j:Int) ∈ x):=by rw [YaA,← Bool.coe_iff_coe,Yn];exact (h.mem j).symm
 have e2:bitAt us j=decide ((j:Int) ∈ y):=by rw [YaA,← Bool.coe_iff_coe,Yn];exact (k.mem j).symm
 rw [e1,e2]
theorem ZA.same {n:Nat} {ws us x y:List Int} (h:ZA n ws x) (k:ZA n us y):decide (ws=us)=decide (x=y):=by
 rw [YQ]
 constructor
 ·intro e;subst e;exact h.uniq k
 ·intro e;subst e;exact h.words k
theorem ZA.or {n m:Nat} {ws us x y:List Int} (h:ZA n ws x) (k:ZA m us y):ZA n (Zad (fun a b=>bits .or .u64 a b) n ws us) (orL x n y):=
 h.each Zio k (ZeO h.up y) fun i h0 h1=>by
  rw [ZbW h.up]
  simp [h0,h1]
theorem ZA.minus {n m:Nat} {ws us x y:List Int} (h:ZA n ws x) (k:ZA m us y):ZA n (Zad (fun a b=>bits .andNot .u64 a b) n ws us) (ZR x y):=
 h.each Zde k (Zcr h.up _) fun i h0 h1=>by
  unfold ZR
  rw [YH]
  simp
theorem ZlD {n:Nat} (h0:0<n % 64) {x:Int} (hx:0≤x∧x<18446744073709551616):bits .and .u64 x (IntKind.wrap .u64 (IntKind.wrap .u64 (1*2 ^ min (IntKind.wrap .u64 ((n:Int) % 64)).toNat (IntKind.bits .u64)) - 1))=trimW n x:=by
 obtain ⟨X,rfl⟩:=Yz hx.1
 have h2:2 ^ (n % 64)<2 ^ 64:=Nat.pow_lt_pow_right (by decide) (YaZ _ (by decide))
 have h3:0<2 ^ (n % 64):=Nat.pow_pos (by decide)
 rw [ZI (by omega:0≤((n:Int) % 64)∧(n:Int) % 64≤_)]
 have e1:min ((n:Int) % 64).toNat (IntKind.bits .u64)=n % 64:=by simp only [IntKind.bits];omega
 have e2:(1:Int)*2 ^ (n % 64)=((2 ^ (n % 64):Nat):Int):=by rw [Int.one_mul];norm_cast
 rw [e1,e2]
 unfold trimW
 rw [Ye ow,Yb]
 have e3:IntKind.wrap .u64 (IntKind.wrap .u64 ((2 ^ (n % 64):Nat):Int) - 1)=((2 ^ (n % 64) - 1:Nat):Int):=by
  generalize 2 ^ (n % 64)=q at h2 h3 ⊢
  rw [ZI (by omega:0≤(q:Int)∧(q:Int)≤_),ZI ow]
  omega
 have h4:2 ^ (n % 64) - 1<18446744073709551616:=by
  generalize 2 ^ (n % 64)=q at h2 h3 ⊢
  omega
 rw [e3,Zdc _ _ ow h4,Yaw]
theorem Zdt {E ws:List Int} {i:Nat} (hl:E.length=ws.length) (hi:i<ws.length):(!decide (ws.take i=E.take i) || !decide (Nn E i=Nn ws i)) = !decide (ws.take (i+1)=E.take (i+1)):=by
 rw [ZE hi,ZE ow,← Bool.not_and,← Bool.decide_and]
 congr 1
 rw [YQ]
 constructor
 ·rintro ⟨h1,h2⟩;rw [h1,h2]
 ·intro h
  have:=List.append_inj' h rfl
  exact ⟨this.1,by have:=this.2;simp at this;exact this.symm⟩
theorem Zgp (ws:List Int) (i:Nat):ws.set i (Nn ws i)=ws:=by
 apply Y4 (by simp)
 intro j h1 h2
 rw [YaK]
 split
 ·rename_i e;subst e;rw [nth_eq h2]
 ·rfl
theorem Znq (b n:Nat) (wv:Value) (ws:List Int) (hI:ZP n ws):FnG prog 79 1 [.is (.pointer (some ⟨b,0,none⟩))] [HP.star (Zcf (.pointer (some ⟨b,0,none⟩)) wv n ws)] (.tup []) (fun _=>[HP.star (Zcf (.pointer (some ⟨b,0,none⟩)) wv n (Zbu n ws))]):=by
 refine FnG.mk func79 V ntmps79 V kr fun B F0 a w F J hG G=>?_
 obtain ⟨F,G⟩:=G.peel 1 2 V rfl
 obtain ⟨F,G⟩:=G.peel 1 3 V rfl
 obtain ⟨F,G⟩:=G.nM [0] [3,2,0]
 refine Ya (Zb G (qR rr (qf (o_nilCheck 2 .is (by rfl)) r1 r1 (qf (oF 0 2 .adr) r1 r1 (qa 2 r1 r1 (qf (o_and .t qi) r1 qz (qO rr qZ)))))) J [2,0] [3,2,0] V V fun a w F G=>?_)
 rw [and63 _ (by have:=hI.hi;omega)] at G
 refine Za (Ya (rZ G (qR rr (qf (Zbq .t qi) r1 qz qZ)) J [9,2,0] [3,2,0] fun G=>?_))
 refine Zc G V (fun hc0=>?_) (fun hc0=>?_)
 ·have hn0:0<n % 64:=by simp at hc0;omega
  have hlw:=hI.len
  have hhi:=hI.hi
  have hq0:0≤IntKind.wrap .i64 ((ws.length:Int) - 1):=by rw [Zr ow];omega
  have hq1:IntKind.wrap .i64 ((ws.length:Int) - 1)<ws.length:=by rw [Zr ow];omega
  have hq2:(IntKind.wrap .i64 ((ws.length:Int) - 1)).toNat=ws.length - 1:=by rw [Zr ow];omega
  refine Zp G (qR rr (qf (o_nilCheck 2 .is (by rfl)) r1 r1 (qf (oF 1 2 .adr) r1 r1 (qa 2 r1 r1 (qR rr (qf (o_nilCheck 2 .is (by rfl)) r1 r1 (qf (oF 1 2 .adr) r1 r1 (qa 2 r1 r1 (qf (Zx 3 YbD .is) r1 r1 (qf (o_sub .t qi) r1 qz (qf (o_indexAddr_row (sz:=1) 3 (.mk YbD kr) .is .t hq0 hq1 (by rfl)) r2 r1 (qf (Zg (ag:=false) (sz':=1) (sz:=1) 3 .t (by intro x;rfl) ow kr kr kr) r1 r1 (qR rr (qf (o_conv YbF kr .t) r1 qz (qf (o_shl qi .t (u64_nonneg _)) r1 qz (qf (o_sub .t qi) r1 qz (qf (o_and .t .t) r2 qz (qf (o_indexAddr_row (sz:=1) 3 (.mk YbD kr) .is .t hq0 hq1 (by rfl)) r2 r1 (qf (Zt (R:=rU64) (sz:=1) (v:=_) 3 .t (by intro x;rfl) ow .t V one_int kr) r2 r1 qZ))))))))))))))))))) J [] [3,2,0] V V fun a w F G=>?_
  try dsimp only [List.map,Zh,xL,xM,Nat.reduceAdd,xD,xE,xT,xU,xC,xN,zCF,ldSF] at G
  rw [hq2,ZlD hn0 (hI.wd _)] at G
  have hg:ws.set (ws.length - 1) (trimW n (Nn ws (ws.length - 1)))=Zbu n ws:=rfl
  obtain ⟨F,G⟩:=G.nM [] [3,2,0]
  rw [hg] at G
  have G:=G.fresh 1 rfl
  obtain ⟨F,G⟩:=G.push 1 3 V V V kr
  obtain ⟨F,G⟩:=G.push 1 2 V V V kr
  have G:=G.turn 1 V (r':=RS.hp (HP.star (Zcf (.pointer (some ⟨b,0,none⟩)) wv n (Zbu n ws)))) (fun _ _ _ _ h=>h)
  refine Zy hG G V .nil .none rfl
 have hg:ws=Zbu n ws:=by
   unfold Zbu trimW
   rw [Yf (by simp at hc0;omega)]
   exact (Zgp _ _).symm
 refine Yg ?_
 obtain ⟨F,G⟩:=G.nM [] [3,2,0]
 rw [hg] at G
 have G:=G.fresh 1 rfl
 obtain ⟨F,G⟩:=G.push 1 3 V V V kr
 obtain ⟨F,G⟩:=G.push 1 2 V V V kr
 have G:=G.turn 1 V (r':=RS.hp (HP.star (Zcf (.pointer (some ⟨b,0,none⟩)) wv n (Zbu n ws)))) (fun _ _ _ _ h=>h)
 refine Zy hG G V .nil .none rfl
theorem Zig {g : FuncId} {f : Int → Int → Int} {gb : Bool → Bool → Bool} (hf : ZgO f gb) {fn : Func} (hfn : prog.funcs[g]? = some fn) (hbd : fn.body.isSome = true) (hnm : (fn.name == "runtime.NumGoroutine") = false) (hc : ∀ p q, FnP prog g [.int .u64 p, .int .u64 q] (.int .u64 (f p q))) (b n : Nat) (ws : List Int) (m : Nat) (us : List Int) (hu : ∀ k, 0 ≤ Nn us k ∧ Nn us k < 18446744073709551616) : FnG prog 54 1 [.is (.pointer (some ⟨b, 0, none⟩)), .ref [.int .i64 m, .sl rU64 us], .is (.func (.func g) #[] #[])] [Zay (.pointer (some ⟨b, 0, none⟩)) n ws] (.bool (!decide (ws = (Zad f n ws us)))) (fun _ => [Zay (.pointer (some ⟨b, 0, none⟩)) n (Zad f n ws us)]) := by
 refine FnG.mk func54 V ntmps54 V kr fun B F0 a w F J hG G=>?_
 obtain ⟨wv,G⟩:=G.open_ex 1 rfl
 obtain ⟨hI,G⟩:=G.open_and 1 rfl
 obtain ⟨F,G⟩:=G.peel 1 2 V rfl
 obtain ⟨F,G⟩:=G.peel 1 3 V rfl
 obtain ⟨F,G⟩:=G.nM [2,1,0] [3,2,0]
 have hhi:=hI.hi
 have hlw:=hI.len
 have hll:ws.length≤9223372036854775807:=by omega
 refine Ya (rZ G qB J [6,2,1,0] [3,2,0] fun G=>(Ya (Ya ?_)))
 refine rZ G (qR rr (qf (Zai _ underlying51 V .t) r1 qz qZ)) J [12,6,2,1,0] [3,2,0] fun G=>?_
 refine Zc G V (fun hc0=>?_) (fun hc0=>?_)
 ·skip
  simp at hc0
 refine Yg (Za (Ya (rZ G qB J [7,6,2,1,0] [3,2,0] fun G=>(Ya (Ya ?_)))))
 refine rZ G (qR rr (qf (o_nilCheck 2 .is (by rfl)) r1 r1 (qf (oF 1 2 .adr) r1 r1 (qa 2 r1 r1 (qf (Zx 3 YbD .is) r1 r1 (qJ qZ)))))) J [18,17,16,7,6,2,1,0] [3,2,0] fun G=>Yk ?_
 replace G:=G.ent (i:=7) (s':=.pv (.bool (!decide (ws.take 0=(Zad f n ws us).take 0)))) V (.bool (by simp))
 replace G:=G.turn 3 V (r':=.ob (.val wv) (Zo 101 1 rU64 (ZeN f n ws us 0))) (by rw [ZkJ];exact fun _ _ _ _ h=>h)
 refine Zl (σ:=(Nat)) [0,1,2,6,16,17] [0,2] (fun s=>[(18,.pv (.int .i64 (s:Int))),(7,.pv (.bool (!decide (ws.take s=(Zad f n ws us).take s))))]) (fun s=>[(3,.ob (.val wv) (Zo 101 1 rU64 (ZeN f n ws us s)))]) (fun s=>s≤ws.length∧(True)) (fun s=>ws.length - s) (0) G ⟨rfl,rfl,rfl,rfl,rfl,rfl,rfl,rfl,tv⟩ ⟨rfl,rfl,rfl,tv⟩ ⟨YA _,tv⟩ ?_
 clear G;intro i a w F hC G
 try dsimp only at hC
 obtain ⟨F,G⟩:=G.nM [18,17,16,7,6,2,1,0] [3,2,0]
 try dsimp only at G
 obtain ⟨hi,hq⟩:=hC
 refine Ya (rZ G (qL r2) J [19,18,17,16,7,6,2,1,0] [3,2,0] fun G=>Ya ?_)
 refine Zc G V (fun hc1=>?_) (fun hc1=>?_)
 ·skip
  have hil:i<ws.length:=by simp at hc1;omega
  have hml:=Zbi (f:=f) (n:=n) (ws:=ws) (us:=us) (i:=i) ow
  have hml1:=Zbi (f:=f) (n:=n) (ws:=ws) (us:=us) (i:=i+1) ow
  refine Yg (Za (Ya (Yk (Ya (Zb G (qR rr (qf (o_indexAddr_row (sz:=1) 3 (.mk YbD kr) .is .t ow ow (by rfl)) r2 r1 (qf (Zg (ag:=false) (sz':=1) (sz:=1) 3 .t (by intro x;rfl) (by rw [Yb];omega) kr kr kr) r1 r1 (qO rr (qO rr qZ))))) J [18,17,16,9,8,7,6,2,1,0] [3,2,0] V V fun a w F G=>?_)))))
  try simp only [Yb] at G
  rw [ZmU hil] at G
  refine Za (Ya (rZ G (qI qZ) J [18,17,16,10,9,8,7,6,2,1,0] [3,2,0] fun G=>(Ya (Ya ?_))))
  refine rZ G (qR rr (qf (Zf8 underlying51 .t) r1 qz (qR rr (qm V V V V (qm V V V V (qk V (fun h=>o_nilCheck_ref (.w h)) r2 qz (qk V (fun h=>oG 1 (.w h)) r2 qz (qk V (fun h=>oR false 1 (.w h)) r2 qz (qk V (fun h=>Zbf YbD (.w h)) r2 qz (qk V (fun h=>Zbg (.w h) (.w h)) r3 qz (qf (ZF .t .t) r2 qz qZ))))))))))) J [33,18,17,16,10,9,8,7,6,2,1,0] [3,2,0] fun G=>?_
  refine Zc G V (fun hc2=>?_) (fun hc2=>?_)
  ·skip
   have hiu:i<us.length:=by simp at hc2;omega
   refine Zb G (qR rr (qf (o_nilCheck_ref .t) r1 qz (qf (oG 1 .t) r1 qz (qf (oR false 1 .t) r1 qz (qR rr (qy 1 YbD r2 (qf (oR false 1 .t) r1 qz (qO rr qZ)))))))) J [18,17,16,10,9,8,7,6,2,1,0] [3,2,0] V V fun a w F G=>?_
   try simp only [Yb] at G
   refine Za (Ya (Zp G (qR rr (qf (o_nilCheck 2 .is (by rfl)) r1 r1 (qf (oF 1 2 .adr) r1 r1 (qa 2 r1 r1 (qR rr (qR rr (qR rr (qR rr (qf (Zih .t (hc _ _) hfn hbd hnm (Args.two .t .t)) r3 qz (qf (o_indexAddr_row (sz:=1) 3 (.mk YbD kr) .is .t ow ow (by rfl)) r2 r1 (qf (Zt (R:=rU64) (sz:=1) (v:=_) 3 .t (by intro x;rfl) (by rw [Yb];omega) .t V one_int kr) r2 r1 qZ))))))))))) J [18,17,16,9,8,7,6,2,1,0] [3,2,0] V V fun a w F G=>?_))
   try dsimp only [List.map,Zh,xL,xM,Nat.reduceAdd,xD,xE,xT,xU,xC,xN,zCF,ldSF] at G
   try simp only [Yb] at G
   refine Za (Ya (Ya (rZ G (qR rr (qR rr (qf (o_nilCheck 2 .is (by rfl)) r1 r1 (qf (oF 1 2 .adr) r1 r1 (qa 2 r1 r1 (qf (Zx 3 YbD .is) r1 r1 (qf (o_sub .t qi) r1 qz (qf (o_eql .t .t) r2 qz qZ)))))))) J [58,18,17,16,9,8,7,6,2,1,0] [3,2,0] fun G=>?_)))
   refine Zc G V (fun hc3=>?_) (fun hc3=>?_)
   ·skip
    have hlast:i+1=ws.length:=by
      have h':=hc3
      simp only [YM,hml,Yn] at h'
      rw [Zr ow] at h'
      omega
    obtain ⟨F,G⟩:=G.nM [58,18,17,16,9,8,7,6,2,1,0] [3,2,0]
    have G:=G.fresh 1 rfl
    obtain ⟨F,G⟩:=G.push 1 3 V V V kr
    obtain ⟨F,G⟩:=G.push 1 2 V V V kr
    have hJ:ZP n ((ZeN f n ws us i).set i (f (Nn ws i) (Nn us i))):=(ZlG hf hI hu ow).setN i (hf.rg _ _ (hI.wd i) (hu i))
    obtain ⟨F,G⟩:=G.nM [58,18,17,16,9,8,7,6,2,1,0] [1,0]
    refine Zb G (qR rr (qf (o_callG1 1 (Znq b n wv _ hJ) func79 V kr (Args.one .t)) r1 r1 qZ)) J [18,17,16,9,8,7,6,2,1,0] [1,0] V V fun a w F G=>?_
    rw [Zf5 hlast] at G
    obtain ⟨F,G⟩:=G.peel 1 2 V rfl
    obtain ⟨F,G⟩:=G.peel 1 3 V rfl
    obtain ⟨F,G⟩:=G.nM [18,17,16,9,8,7,6,2,1,0] [3,2,0]
    refine Za (Zb G (qR rr (qR rr (qm V V V V (qk V (fun h=>o_nilCheck 2 (.w h .is) (by rfl)) r2 r1 (qk V (fun h=>oF 1 2 (.w h .adr)) r2 r1 (qw 2 V r2 r1 (qm V V V V (qk V (fun h=>o_indexAddr_row (sz:=1) 3 (.mk YbD kr) (.w h .is) (.w h) ow ow (by rfl)) r3 r1 (qk V (fun h=>Zg (ag:=false) (sz':=1) (sz:=1) 3 (.w h) (by intro x;rfl) (by rw [Yb];omega) kr kr kr) r2 r1 (qm V V V V (qk V (fun h=>o_neq (.w h) (.w h)) r3 qz (qf (Zaa .t .t) r2 qz (qO rr qZ))))))))))))) J [18,17,16,7,6,2,1,0] [3,2,0] V V fun a w F G=>?_)
    try simp only [Yb] at G
    simp only [Zcs hil] at G
    refine Zi (Za (rZ G (qp r1 (qR rr qZ)) J [18,17,16,7,6,2,1,0] [3,2,0] fun G=>?_))
    replace G:=G.ent (i:=18) (s':=.pv (.int .i64 ((i+1:Nat):Int))) V (.int (Zf ow))
    replace G:=G.ent (i:=7) (s':=.pv (.bool (!decide (ws.take (i+1)=(Zad f n ws us).take (i+1))))) V (.bool (Zdt (ZV f n ws us) hil))
    obtain ⟨F,G⟩:=G.nM [17,16,6,2,1,0,7,18] [2,0,3]
    exact ⟨(i+1),F,⟨by omega,tv⟩,G,by omega⟩
   have hnl:i+1≠ws.length:=by
     have h':=hc3
     simp only [YM,hml,YR] at h'
     rw [Zr ow] at h'
     omega
   rw [ZiI hil hnl] at G
   refine Yg (Za (Zb G (qR rr (qR rr (qm V V V V (qk V (fun h=>o_nilCheck 2 (.w h .is) (by rfl)) r2 r1 (qk V (fun h=>oF 1 2 (.w h .adr)) r2 r1 (qw 2 V r2 r1 (qm V V V V (qk V (fun h=>o_indexAddr_row (sz:=1) 3 (.mk YbD kr) (.w h .is) (.w h) ow ow (by rfl)) r3 r1 (qk V (fun h=>Zg (ag:=false) (sz':=1) (sz:=1) 3 (.w h) (by intro x;rfl) (by rw [Yb];omega) kr kr kr) r2 r1 (qm V V V V (qk V (fun h=>o_neq (.w h) (.w h)) r3 qz (qf (Zaa .t .t) r2 qz (qO rr qZ))))))))))))) J [18,17,16,7,6,2,1,0] [3,2,0] V V fun a w F G=>?_))
   try simp only [Yb] at G
   simp only [Zcs hil] at G
   refine Zi (Za (rZ G (qp r1 (qR rr qZ)) J [18,17,16,7,6,2,1,0] [3,2,0] fun G=>?_))
   replace G:=G.ent (i:=18) (s':=.pv (.int .i64 ((i+1:Nat):Int))) V (.int (Zf ow))
   replace G:=G.ent (i:=7) (s':=.pv (.bool (!decide (ws.take (i+1)=(Zad f n ws us).take (i+1))))) V (.bool (Zdt (ZV f n ws us) hil))
   obtain ⟨F,G⟩:=G.nM [17,16,6,2,1,0,7,18] [2,0,3]
   exact ⟨(i+1),F,⟨by omega,tv⟩,G,by omega⟩
  replace G:=G.ent (i:=10) (s':=.pv (.int .u64 (Nn us i))) V (.int (Za3 (by first | (simp at hc2;omega) | simp)).symm)
  obtain ⟨F,G⟩:=G.nM [33,18,17,16,10,9,8,7,6,2,1,0] [3,2,0]
  refine Yg (Za (Ya (Zp G (qR rr (qf (o_nilCheck 2 .is (by rfl)) r1 r1 (qf (oF 1 2 .adr) r1 r1 (qa 2 r1 r1 (qR rr (qR rr (qR rr (qR rr (qf (Zih .t (hc _ _) hfn hbd hnm (Args.two .t .t)) r3 qz (qf (o_indexAddr_row (sz:=1) 3 (.mk YbD kr) .is .t ow ow (by rfl)) r2 r1 (qf (Zt (R:=rU64) (sz:=1) (v:=_) 3 .t (by intro x;rfl) (by rw [Yb];omega) .t V one_int kr) r2 r1 qZ))))))))))) J [18,17,16,9,8,7,6,2,1,0] [3,2,0] V V fun a w F G=>?_)))
  try dsimp only [List.map,Zh,xL,xM,Nat.reduceAdd,xD,xE,xT,xU,xC,xN,zCF,ldSF] at G
  try simp only [Yb] at G
  refine Za (Ya (Ya (rZ G (qR rr (qR rr (qf (o_nilCheck 2 .is (by rfl)) r1 r1 (qf (oF 1 2 .adr) r1 r1 (qa 2 r1 r1 (qf (Zx 3 YbD .is) r1 r1 (qf (o_sub .t qi) r1 qz (qf (o_eql .t .t) r2 qz qZ)))))))) J [58,18,17,16,9,8,7,6,2,1,0] [3,2,0] fun G=>?_)))
  refine Zc G V (fun hc4=>?_) (fun hc4=>?_)
  ·skip
   have hlast:i+1=ws.length:=by
     have h':=hc4
     simp only [YM,hml,Yn] at h'
     rw [Zr ow] at h'
     omega
   obtain ⟨F,G⟩:=G.nM [58,18,17,16,9,8,7,6,2,1,0] [3,2,0]
   have G:=G.fresh 1 rfl
   obtain ⟨F,G⟩:=G.push 1 3 V V V kr
   obtain ⟨F,G⟩:=G.push 1 2 V V V kr
   have hJ:ZP n ((ZeN f n ws us i).set i (f (Nn ws i) (Nn us i))):=(ZlG hf hI hu ow).setN i (hf.rg _ _ (hI.wd i) (hu i))
   obtain ⟨F,G⟩:=G.nM [58,18,17,16,9,8,7,6,2,1,0] [1,0]
   refine Zb G (qR rr (qf (o_callG1 1 (Znq b n wv _ hJ) func79 V kr (Args.one .t)) r1 r1 qZ)) J [18,17,16,9,8,7,6,2,1,0] [1,0] V V fun a w F G=>?_
   rw [Zf5 hlast] at G
   obtain ⟨F,G⟩:=G.peel 1 2 V rfl
   obtain ⟨F,G⟩:=G.peel 1 3 V rfl
   obtain ⟨F,G⟩:=G.nM [18,17,16,9,8,7,6,2,1,0] [3,2,0]
   refine Za (Zb G (qR rr (qR rr (qm V V V V (qk V (fun h=>o_nilCheck 2 (.w h .is) (by rfl)) r2 r1 (qk V (fun h=>oF 1 2 (.w h .adr)) r2 r1 (qw 2 V r2 r1 (qm V V V V (qk V (fun h=>o_indexAddr_row (sz:=1) 3 (.mk YbD kr) (.w h .is) (.w h) ow ow (by rfl)) r3 r1 (qk V (fun h=>Zg (ag:=false) (sz':=1) (sz:=1) 3 (.w h) (by intro x;rfl) (by rw [Yb];omega) kr kr kr) r2 r1 (qm V V V V (qk V (fun h=>o_neq (.w h) (.w h)) r3 qz (qf (Zaa .t .t) r2 qz (qO rr qZ))))))))))))) J [18,17,16,7,6,2,1,0] [3,2,0] V V fun a w F G=>?_)
   try simp only [Yb] at G
   simp only [Zcs hil] at G
   refine Zi (Za (rZ G (qp r1 (qR rr qZ)) J [18,17,16,7,6,2,1,0] [3,2,0] fun G=>?_))
   replace G:=G.ent (i:=18) (s':=.pv (.int .i64 ((i+1:Nat):Int))) V (.int (Zf ow))
   replace G:=G.ent (i:=7) (s':=.pv (.bool (!decide (ws.take (i+1)=(Zad f n ws us).take (i+1))))) V (.bool (Zdt (ZV f n ws us) hil))
   obtain ⟨F,G⟩:=G.nM [17,16,6,2,1,0,7,18] [2,0,3]
   exact ⟨(i+1),F,⟨by omega,tv⟩,G,by omega⟩
  have hnl:i+1≠ws.length:=by
    have h':=hc4
    simp only [YM,hml,YR] at h'
    rw [Zr ow] at h'
    omega
  rw [ZiI hil hnl] at G
  refine Yg (Za (Zb G (qR rr (qR rr (qm V V V V (qk V (fun h=>o_nilCheck 2 (.w h .is) (by rfl)) r2 r1 (qk V (fun h=>oF 1 2 (.w h .adr)) r2 r1 (qw 2 V r2 r1 (qm V V V V (qk V (fun h=>o_indexAddr_row (sz:=1) 3 (.mk YbD kr) (.w h .is) (.w h) ow ow (by rfl)) r3 r1 (qk V (fun h=>Zg (ag:=false) (sz':=1) (sz:=1) 3 (.w h) (by intro x;rfl) (by rw [Yb];omega) kr kr kr) r2 r1 (qm V V V V (qk V (fun h=>o_neq (.w h) (.w h)) r3 qz (qf (Zaa .t .t) r2 qz (qO rr qZ))))))))))))) J [18,17,16,7,6,2,1,0] [3,2,0] V V fun a w F G=>?_))
  try simp only [Yb] at G
  simp only [Zcs hil] at G
  refine Zi (Za (rZ G (qp r1 (qR rr qZ)) J [18,17,16,7,6,2,1,0] [3,2,0] fun G=>?_))
  replace G:=G.ent (i:=18) (s':=.pv (.int .i64 ((i+1:Nat):Int))) V (.int (Zf ow))
  replace G:=G.ent (i:=7) (s':=.pv (.bool (!decide (ws.take (i+1)=(Zad f n ws us).take (i+1))))) V (.bool (Zdt (ZV f n ws us) hil))
  obtain ⟨F,G⟩:=G.nM [17,16,6,2,1,0,7,18] [2,0,3]
  exact ⟨(i+1),F,⟨by omega,tv⟩,G,by omega⟩
 have hil:i=ws.length:=by simp at hc1;omega
 rw [hil,Yac,YL (Nat.le_of_eq (ZV f n ws us)),Zmk] at G
 have hg:(!decide (ws=(Zad f n ws us))) = !decide (ws=(Zad f n ws us)):=rfl
 refine YI (Zm (Zm (Zu (Za (Ya (rZ G (qR rr (qO rr qZ)) J [6] [3,2,0] fun G=>Yl ?_))))))
 have G:=G.fresh 1 rfl
 obtain ⟨F,G⟩:=G.push 1 3 V V V kr
 obtain ⟨F,G⟩:=G.push 1 2 V V V kr
 have G:=G.turn 1 V (r':=RS.hp (Zay (.pointer (some ⟨b,0,none⟩)) n (Zad f n ws us))) (fun _ _ _ _ h=>⟨_,(ZfE hf hI hu),h⟩)
 refine Zy hG G V (.tmp V .nil) (.one (.bool hg)) rfl
theorem ZbL {n:Nat} (h:n≤65536):rowN (n:Int)=n:=by unfold rowN;split; (omega);split <;> omega
theorem Zol {n:Nat} {x:List Int} (h:Up n x):orL [] n x=x:=
 Zbm (ZeO ⟨List.Pairwise.nil,by simp⟩ x).1 h.1 fun i=>by
  rw [ZbW ⟨List.Pairwise.nil,by simp⟩]
  constructor
  ·rintro (h1 | h1)
   ·cases h1
   ·exact h1.1
  ·intro h1;have:=h.2 i h1;exact .inr ⟨h1,this.1,this.2⟩
theorem ZnU (p q:Int):FnP prog 55 [.int .u64 p,.int .u64 q] (.int .u64 (bits .or .u64 p q)):=by
 refine FnP.mk func55 V ntmps55 V fun B a w F J hfr G=>Ya ?_
 refine rZ G (qI qZ) J [4,1,0] [0] fun G=>Ya ?_
 refine rZ G (qR rr (qR rr (qf (ZpU .t .t) r2 qz (qO rr qZ)))) J [4] [0] fun G=>Yl ?_
 refine Zz hfr G V V V .refl
theorem ZnI (b n:Nat) (ws:List Int) (m:Nat) (us:List Int) (hu:∀ k,0≤Nn us k∧Nn us k<18446744073709551616):FnG prog 28 1 [.is (.pointer (some ⟨b,0,none⟩)),.ref [.int .i64 m,.sl rU64 us]] [Zay (.pointer (some ⟨b,0,none⟩)) n ws] (.bool (!decide (ws=Zad (fun a b=>bits .or .u64 a b) n ws us))) (fun _=>[Zay (.pointer (some ⟨b,0,none⟩)) n (Zad (fun a b=>bits .or .u64 a b) n ws us)]):=by
 refine FnG.mk func28 V ntmps28 V kr fun B F0 a w F J hG G=>Ya ?_
 refine rZ G qB J [4,1,0] [1,0] fun G=>Ya ?_
 refine rZ G (qR rr (qR rr (qf (o_callG1 1 (Zig Zio func55 V kr (fun p q=>ZnU p q) b n ws m us hu) func54 V kr (Args.three .t .t .f)) r2 r1 (qO rr qZ)))) J [4] [1,0] fun G=>Yl ?_
 refine Zy hG G V (.tmp V .nil) (.one (.bool V)) rfl
theorem ZpG (b n:Nat) (x:List Int) (m:Nat) (z:List Int):FnG prog 28 1 [.is (.pointer (some ⟨b,0,none⟩)),setR m z] [Z0 (.pointer (some ⟨b,0,none⟩)) n x] (.bool (!decide (x=orL x n z))) (fun _=>[Z0 (.pointer (some ⟨b,0,none⟩)) n (orL x n z)]):=FnG.ofWords2 fun ws us hs ks=>⟨_,hs.or ks,by rw [← hs.same (hs.or ks)];exact ZnI b n ws m us ks.ok.wd⟩
theorem Zjt (p q:Int):FnP prog 81 [.int .u64 p,.int .u64 q] (.int .u64 (bits .andNot .u64 p q)):=by
 refine FnP.mk func81 V ntmps81 V fun B a w F J hfr G=>Ya ?_
 refine rZ G (qI qZ) J [4,1,0] [0] fun G=>Ya ?_
 refine rZ G (qR rr (qR rr (qf (Zl3 .t .t) r2 qz (qO rr qZ)))) J [4] [0] fun G=>Yl ?_
 refine Zz hfr G V V V .refl
theorem ZjC (b n:Nat) (ws:List Int) (m:Nat) (us:List Int) (hu:∀ k,0≤Nn us k∧Nn us k<18446744073709551616):FnG prog 59 1 [.is (.pointer (some ⟨b,0,none⟩)),.ref [.int .i64 m,.sl rU64 us]] [Zay (.pointer (some ⟨b,0,none⟩)) n ws] (.bool (!decide (ws=Zad (fun a b=>bits .andNot .u64 a b) n ws us))) (fun _=>[Zay (.pointer (some ⟨b,0,none⟩)) n (Zad (fun a b=>bits .andNot .u64 a b) n ws us)]):=by
 refine FnG.mk func59 V ntmps59 V kr fun B F0 a w F J hG G=>Ya ?_
 refine rZ G qB J [4,1,0] [1,0] fun G=>Ya ?_
 refine rZ G (qR rr (qR rr (qf (o_callG1 1 (Zig Zde func81 V kr (fun p q=>Zjt p q) b n ws m us hu) func54 V kr (Args.three .t .t .f)) r2 r1 (qO rr qZ)))) J [4] [1,0] fun G=>Yl ?_
 refine Zy hG G V (.tmp V .nil) (.one (.bool V)) rfl
theorem Zos (b n:Nat) (x:List Int) (m:Nat) (z:List Int):FnG prog 59 1 [.is (.pointer (some ⟨b,0,none⟩)),setR m z] [Z0 (.pointer (some ⟨b,0,none⟩)) n x] (.bool (!decide (x=ZR x z))) (fun _=>[Z0 (.pointer (some ⟨b,0,none⟩)) n (ZR x z)]):=FnG.ofWords2 fun ws us hs ks=>⟨_,hs.minus ks,by rw [← hs.same (hs.minus ks)];exact ZjC b n ws m us ks.ok.wd⟩
end Go.Proofs.YtlaaiihdhockcaaGreatDoor
