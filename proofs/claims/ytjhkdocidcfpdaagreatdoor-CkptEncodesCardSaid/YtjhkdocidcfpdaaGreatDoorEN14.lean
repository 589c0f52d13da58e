/- A part of the proof. -/
import Derived.Test.YtjhkdocidcfpdaaGreatDoorEN13
set_option linter.unusedVariables false
set_option linter.unusedSimpArgs false
set_option maxRecDepth 100000
set_option maxHeartbeats 16000000
open List renaming setIfInBounds_toArray → Zf, set_cons_zero → Zg, set_cons_succ → Zh, getElem_cons_zero → Zi, getElem_cons_succ → Zj, getElem_toArray → Zk
namespace Go.Proofs.YtjhkdocidcfpdaaGreatDoor
open Go.RowKit Go.Shelf Go
section
variable {P:Program} {ops:Array Oper} {Q:Exit->Act->World->Prop} {md:Region.Mode} {S:World->Prop} {oi:Oper} {fuel:Nat} {listed l':Array Bool} {a a':Act} {v:Value} {w:World}
theorem tu (i:Nat) (h:wpAnyH P md ops Q S fuel l' a' w) (hi:ops[i]?=some oi:=by rfl)
  (hy:∀w,S w->(execOp a.eval oi).run P w=.ok (.value v) w:=by(rintro w ⟨s0,s1,s2,s3,s4,s5,s6,s7,s8⟩;go_simp;(try with_reducible rfl)))
  (hs:Region.noSelect ops=true:=by kernel_rfl) (hf:Region.free md ops listed i=true:=by kernel_rfl) (hr:(Region.ready md ops listed).contains i=true:=by kernel_rfl)
  (hQ:∀c a w,Q (.panic c) (a.put oi.dst v) w->Q (.panic c) a w:=by exact fun _ _ _ h=>h) (hw:Region.wanted oi (yielded ops a.tmps)=true:=by rfl) (hS:S w:=by assumption)
  (hl:listed.setIfInBounds i true=l':=by((try simp only[Act.put,Zk,Zi,Zj,Zf,Zg,Zh]);rfl)) (ha:a.put oi.dst v=a':=by((try simp only[Act.put,Zk,Zi,Zj,Zf,Zg,Zh]);rfl)):wpAnyH P md ops Q S (fuel+1) listed a w:=
 tr i hy h hi hs hf hr hQ hw hS hl ha
end
noncomputable def uN (n:Nat):Code:=(Tryz.f195.body.bind (lT n)).getD .skip
theorem PH (lb k:Nat) (k0 k1 k2 k3 k4 k5 k6 k7:Int) (ob:Option Addr) (nb cb:Nat) (os:Option Addr) (ns cs:Nat) (name:ByteArray) (w5:World) (u0 u4 u5 u6 u7 u8 u9 u10 u11 u14 u15 u16 u17 u18 u19 u20 u21 u22 u23 u24 u25 u26 u27 u28 u29 u30 u31 u32 u33 u34 u35 u36 u37 u38 u39 u40 u41 u42 u43 u44 u45 u46 u47 u48 u49 u50 u51 u52 u53 u54 u55 u56 u57 u58 u59 u60 u61 u62 u63 u64 u65 u66 u67 u68 u69 u70 u71 u72 u73 u74 u75 u76 u77 u78 u79 u80 u81 u82 u83 u84 u85 u86 u87 u88 u89 u90:Value)
  (A:aA w5 lb 175 #[.int .i64 k0,.int .i64 k1,.int .i64 k2,.int .i64 k3,.int .i64 k4,.int .i64 k5,.int .i64 k6,.int .i64 k7,.slice ob nb cb]) (hk:k<100) (hn:name.size<=1000)
  (K:Act->World->Prop) (hQ:∀(nk:ByteArray),nk.size<=21->∀(t24 t25 t26 t27 t28 t29 t30 t31 t32 t33 t34 t35:Value) (w':World),Below w5.heap.size w5 w'->w'.heap.size=w5.heap.size+1->aA w' w5.heap.size 251 (cJ ⟨k0,k1,k2,k3,k4,k5,k6,k7⟩ (.slice ob nb cb) (.slice os ns cs) (.slice none 0 0) (.slice none 0 0) false (name++nk) 0 false)->K ⟨#[u0,.string name,.bool false,.slice os ns cs,u4,u5,u6,u7,u8,u9,u10,u11,.int .i64 k,.pointer (some ⟨lb,0,none⟩),.pointer (some ⟨w5.heap.size,0,none⟩),u15,u16,u17,u18,u19,u20,u21,u22,u23,t24,t25,t26,t27,t28,t29,t30,t31,t32,t33,t34,t35,u36,u37,u38,u39,u40,u41,u42,u43,u44,u45,u46,u47,u48,u49,u50,u51,u52,u53,u54,u55,u56,u57,u58,u59,u60,u61,u62,u63,u64,u65,u66,u67,u68,u69,u70,u71,u72,u73,u74,u75,u76,u77,u78,u79,u80,u81,u82,u83,u84,u85,u86,u87,u88,u89,u90],[]⟩ w'):
  Code.wp Tryz.prog (uN 4) (pK K) ⟨#[u0,.string name,.bool false,.slice os ns cs,u4,u5,u6,u7,u8,u9,u10,u11,.int .i64 k,.pointer (some ⟨lb,0,none⟩),u14,u15,u16,u17,u18,u19,u20,u21,u22,u23,u24,u25,u26,u27,u28,u29,u30,u31,u32,u33,u34,u35,u36,u37,u38,u39,u40,u41,u42,u43,u44,u45,u46,u47,u48,u49,u50,u51,u52,u53,u54,u55,u56,u57,u58,u59,u60,u61,u62,u63,u64,u65,u66,u67,u68,u69,u70,u71,u72,u73,u74,u75,u76,u77,u78,u79,u80,u81,u82,u83,u84,u85,u86,u87,u88,u89,u90],[]⟩ w5:=by
 have F:=Za hQ;have c0:=A.q 0 rfl;have C0:∀o,(w5.drew.alloc o).cell? ⟨lb,0,none⟩=some (.int .i64 k0):=(show aA w5.drew lb _ _ from A).cellA 0 rfl;have c1:=A.q 1 rfl;have C1:∀o,(w5.drew.alloc o).cell? ⟨lb,1,none⟩=some (.int .i64 k1):=(show aA w5.drew lb _ _ from A).cellA 1 rfl;have c2:=A.q 2 rfl;have C2:∀o,(w5.drew.alloc o).cell? ⟨lb,2,none⟩=some (.int .i64 k2):=(show aA w5.drew lb _ _ from A).cellA 2 rfl;have c3:=A.q 3 rfl;have C3:∀o,(w5.drew.alloc o).cell? ⟨lb,3,none⟩=some (.int .i64 k3):=(show aA w5.drew lb _ _ from A).cellA 3 rfl;have c4:=A.q 4 rfl;have C4:∀o,(w5.drew.alloc o).cell? ⟨lb,4,none⟩=some (.int .i64 k4):=(show aA w5.drew lb _ _ from A).cellA 4 rfl;have c5:=A.q 5 rfl;have C5:∀o,(w5.drew.alloc o).cell? ⟨lb,5,none⟩=some (.int .i64 k5):=(show aA w5.drew lb _ _ from A).cellA 5 rfl;have c6:=A.q 6 rfl;have C6:∀o,(w5.drew.alloc o).cell? ⟨lb,6,none⟩=some (.int .i64 k6):=(show aA w5.drew lb _ _ from A).cellA 6 rfl;have c7:=A.q 7 rfl;have C7:∀o,(w5.drew.alloc o).cell? ⟨lb,7,none⟩=some (.int .i64 k7):=(show aA w5.drew lb _ _ from A).cellA 7 rfl;have c8:=A.q 8 rfl;have C8:∀o,(w5.drew.alloc o).cell? ⟨lb,8,none⟩=some (.slice ob nb cb):=(show aA w5.drew lb _ _ from A).cellA 8 rfl;clear A hQ
 conv=>arg 2;whnf
 refine wp_region_held_drew (S:=fun w'=>w'.cell? ⟨lb,0,none⟩=some (.int .i64 k0)/\w'.cell? ⟨lb,1,none⟩=some (.int .i64 k1)/\w'.cell? ⟨lb,2,none⟩=some (.int .i64 k2)/\w'.cell? ⟨lb,3,none⟩=some (.int .i64 k3)/\w'.cell? ⟨lb,4,none⟩=some (.int .i64 k4)/\w'.cell? ⟨lb,5,none⟩=some (.int .i64 k5)/\w'.cell? ⟨lb,6,none⟩=some (.int .i64 k6)/\w'.cell? ⟨lb,7,none⟩=some (.int .i64 k7)/\w'.cell? ⟨lb,8,none⟩=some (.slice ob nb cb)) rfl ⟨c0,c1,c2,c3,c4,c5,c6,c7,c8⟩ (fun C=>?_);refine tu 1 ?_;refine tu 2 ?_;refine tu 3 ?_;refine sq 4 ?_;refine sq 5 ?_;refine tu 6 ?_;refine tu 7 ?_;refine tu 8 ?_;refine tu 0 ?_;refine wpAnyH_ready (rs:=[9,12]) (by kernel_rfl) (by simp) ?_;refine AllReadyH.cons rfl (fun K' hK'=>?_) (AllReadyH.cons rfl (fun K' hK'=>?_) AllReadyH.nil)
 ·go_simp
  go_at_call 100
  refine(sK k hk _).mono ?_;rintro e w' ⟨⟨nk,rfl,B⟩,rfl⟩;refine hK'.out _ _ ⟨c0,c1,c2,c3,c4,c5,c6,c7,c8⟩ (fun D=>?_);clear hK' K';have A:¬9223372036854775807<name.size+nk.size:=(by omega)
  (try simp only[Act.put,Zf,Zg,Zh])
  refine tu 10 ?_;refine tu 11 ?_;refine wpAnyH_ready (rs:=[12]) (by kernel_rfl) (by simp) ?_;refine AllReadyH.cons rfl (fun K' hK'=>?_) AllReadyH.nil
  go_simp
  refine hK'.out _ _ ⟨C0 _,C1 _,C2 _,C3 _,C4 _,C5 _,C6 _,C7 _,C8 _⟩ (fun E=>?_);clear hK' K'
  (try simp only[Act.put,Zf,Zg,Zh])
  refine wpAnyH_ready (rs:=[13]) (by kernel_rfl) (by simp) ?_;refine AllReadyH.cons rfl (fun K' hK'=>?_) AllReadyH.nil
  go_simp
  refine hK'.out _ _ ?_ (fun hz=>?_)
  ·exact⟨C0 _,C1 _,C2 _,C3 _,C4 _,C5 _,C6 _,C7 _,C8 _⟩
  clear hK' K'
  (try simp only[Act.put,Zf,Zg,Zh])
  refine wpAnyH_done (by kernel_rfl) ?_ _;exact F.o nk B _ _ _ _ _ _ _ _ _ _ _ _ _ (((Zc _ _).drew.alloc (Zb _) _)) (by simp) (aA.new w5.drew _ _)
 ·go_simp
  refine hK'.out _ _ ⟨C0 _,C1 _,C2 _,C3 _,C4 _,C5 _,C6 _,C7 _,C8 _⟩ (fun D=>?_);clear hK' K'
  (try simp only[Act.put,Zf,Zg,Zh])
  refine wpAnyH_ready (rs:=[9]) (by kernel_rfl) (by simp) ?_;refine AllReadyH.cons rfl (fun K' hK'=>?_) AllReadyH.nil
  go_simp
  go_at_call 100
  refine(sK k hk _).mono ?_;rintro e w' ⟨⟨nk,rfl,B⟩,rfl⟩;refine hK'.out _ _ ⟨C0 _,C1 _,C2 _,C3 _,C4 _,C5 _,C6 _,C7 _,C8 _⟩ (fun E=>?_);clear hK' K';have A:¬9223372036854775807<name.size+nk.size:=(by omega)
  (try simp only[Act.put,Zf,Zg,Zh])
  refine tu 10 ?_;refine tu 11 ?_;refine wpAnyH_ready (rs:=[13]) (by kernel_rfl) (by simp) ?_;refine AllReadyH.cons rfl (fun K' hK'=>?_) AllReadyH.nil
  go_simp
  refine hK'.out _ _ ?_ (fun hz=>?_)
  ·exact⟨C0 _,C1 _,C2 _,C3 _,C4 _,C5 _,C6 _,C7 _,C8 _⟩
  clear hK' K'
  (try simp only[Act.put,Zf,Zg,Zh])
  refine wpAnyH_done (by kernel_rfl) ?_ _;exact F.o nk B _ _ _ _ _ _ _ _ _ _ _ _ _ (((Zc _ _).drew.alloc (Zb _) _)) (by simp) (aA.new w5.drew _ _)
theorem PZ (lb k:Nat) (k0 k1 k2 k3 k4 k5 k6 k7:Int) (ob:Option Addr) (nb cb:Nat) (os:Option Addr) (ns cs:Nat) (name:ByteArray) (w5:World) (u0 u4 u5 u6 u7 u8 u9 u10 u11 u14 u15 u16 u17 u18 u19 u20 u21 u22 u23 u24 u25 u26 u27 u28 u29 u30 u31 u32 u33 u34 u35 u36 u37 u38 u39 u40 u41 u42 u43 u44 u45 u46 u47 u48 u49 u50 u51 u52 u53 u54 u55 u56 u57 u58 u59 u60 u61 u62 u63 u64 u65 u66 u67 u68 u69 u70 u71 u72 u73 u74 u75 u76 u77 u78 u79 u80 u81 u82 u83 u84 u85 u86 u87 u88 u89 u90:Value)
  (A:aA w5 lb 175 #[.int .i64 k0,.int .i64 k1,.int .i64 k2,.int .i64 k3,.int .i64 k4,.int .i64 k5,.int .i64 k6,.int .i64 k7,.slice ob nb cb]) (hk:k<100) (hn:name.size<=1000)
  (K:Act->World->Prop) (hQ:∀(nk:ByteArray),nk.size<=21->∀(t24 t25 t26 t27 t28 t29 t30 t31 t32 t33 t34 t35:Value) (w':World),Below w5.heap.size w5 w'->w'.heap.size=w5.heap.size+1->aA w' w5.heap.size 251 (cJ ⟨k0,k1,k2,k3,k4,k5,k6,k7⟩ (.slice ob nb cb) (.slice os ns cs) (.slice none 0 0) (.slice none 0 0) ((k:Int)==0) (name++nk) 0 false)->K ⟨#[u0,.string name,.bool true,.slice os ns cs,u4,u5,u6,u7,u8,u9,u10,u11,.int .i64 k,.pointer (some ⟨lb,0,none⟩),.pointer (some ⟨w5.heap.size,0,none⟩),u15,u16,u17,u18,u19,u20,u21,u22,u23,t24,t25,t26,t27,t28,t29,t30,t31,t32,t33,t34,t35,u36,u37,u38,u39,u40,u41,u42,u43,u44,u45,u46,u47,u48,u49,u50,u51,u52,u53,u54,u55,u56,u57,u58,u59,u60,u61,u62,u63,u64,u65,u66,u67,u68,u69,u70,u71,u72,u73,u74,u75,u76,u77,u78,u79,u80,u81,u82,u83,u84,u85,u86,u87,u88,u89,u90],[]⟩ w'):
  Code.wp Tryz.prog (uN 4) (pK K) ⟨#[u0,.string name,.bool true,.slice os ns cs,u4,u5,u6,u7,u8,u9,u10,u11,.int .i64 k,.pointer (some ⟨lb,0,none⟩),u14,u15,u16,u17,u18,u19,u20,u21,u22,u23,u24,u25,u26,u27,u28,u29,u30,u31,u32,u33,u34,u35,u36,u37,u38,u39,u40,u41,u42,u43,u44,u45,u46,u47,u48,u49,u50,u51,u52,u53,u54,u55,u56,u57,u58,u59,u60,u61,u62,u63,u64,u65,u66,u67,u68,u69,u70,u71,u72,u73,u74,u75,u76,u77,u78,u79,u80,u81,u82,u83,u84,u85,u86,u87,u88,u89,u90],[]⟩ w5:=by
 have F:=Za hQ;have c0:=A.q 0 rfl;have C0:∀o,(w5.drew.alloc o).cell? ⟨lb,0,none⟩=some (.int .i64 k0):=(show aA w5.drew lb _ _ from A).cellA 0 rfl;have c1:=A.q 1 rfl;have C1:∀o,(w5.drew.alloc o).cell? ⟨lb,1,none⟩=some (.int .i64 k1):=(show aA w5.drew lb _ _ from A).cellA 1 rfl;have c2:=A.q 2 rfl;have C2:∀o,(w5.drew.alloc o).cell? ⟨lb,2,none⟩=some (.int .i64 k2):=(show aA w5.drew lb _ _ from A).cellA 2 rfl;have c3:=A.q 3 rfl;have C3:∀o,(w5.drew.alloc o).cell? ⟨lb,3,none⟩=some (.int .i64 k3):=(show aA w5.drew lb _ _ from A).cellA 3 rfl;have c4:=A.q 4 rfl;have C4:∀o,(w5.drew.alloc o).cell? ⟨lb,4,none⟩=some (.int .i64 k4):=(show aA w5.drew lb _ _ from A).cellA 4 rfl;have c5:=A.q 5 rfl;have C5:∀o,(w5.drew.alloc o).cell? ⟨lb,5,none⟩=some (.int .i64 k5):=(show aA w5.drew lb _ _ from A).cellA 5 rfl;have c6:=A.q 6 rfl;have C6:∀o,(w5.drew.alloc o).cell? ⟨lb,6,none⟩=some (.int .i64 k6):=(show aA w5.drew lb _ _ from A).cellA 6 rfl;have c7:=A.q 7 rfl;have C7:∀o,(w5.drew.alloc o).cell? ⟨lb,7,none⟩=some (.int .i64 k7):=(show aA w5.drew lb _ _ from A).cellA 7 rfl;have c8:=A.q 8 rfl;have C8:∀o,(w5.drew.alloc o).cell? ⟨lb,8,none⟩=some (.slice ob nb cb):=(show aA w5.drew lb _ _ from A).cellA 8 rfl;clear A hQ
 conv=>arg 2;whnf
 refine wp_region_held_drew (S:=fun w'=>w'.cell? ⟨lb,0,none⟩=some (.int .i64 k0)/\w'.cell? ⟨lb,1,none⟩=some (.int .i64 k1)/\w'.cell? ⟨lb,2,none⟩=some (.int .i64 k2)/\w'.cell? ⟨lb,3,none⟩=some (.int .i64 k3)/\w'.cell? ⟨lb,4,none⟩=some (.int .i64 k4)/\w'.cell? ⟨lb,5,none⟩=some (.int .i64 k5)/\w'.cell? ⟨lb,6,none⟩=some (.int .i64 k6)/\w'.cell? ⟨lb,7,none⟩=some (.int .i64 k7)/\w'.cell? ⟨lb,8,none⟩=some (.slice ob nb cb)) rfl ⟨c0,c1,c2,c3,c4,c5,c6,c7,c8⟩ (fun C=>?_);refine tu 1 ?_;refine tu 2 ?_;refine tu 3 ?_;refine tu 4 ?_;refine tu 5 ?_;refine tu 6 ?_;refine tu 7 ?_;refine tu 8 ?_;refine tu 0 ?_;refine wpAnyH_ready (rs:=[9,12]) (by kernel_rfl) (by simp) ?_;refine AllReadyH.cons rfl (fun K' hK'=>?_) (AllReadyH.cons rfl (fun K' hK'=>?_) AllReadyH.nil)
 ·go_simp
  go_at_call 100
  refine(sK k hk _).mono ?_;rintro e w' ⟨⟨nk,rfl,B⟩,rfl⟩;refine hK'.out _ _ ⟨c0,c1,c2,c3,c4,c5,c6,c7,c8⟩ (fun D=>?_);clear hK' K';have A:¬9223372036854775807<name.size+nk.size:=(by omega)
  (try simp only[Act.put,Zf,Zg,Zh])
  refine tu 10 ?_;refine tu 11 ?_;refine wpAnyH_ready (rs:=[12]) (by kernel_rfl) (by simp) ?_;refine AllReadyH.cons rfl (fun K' hK'=>?_) AllReadyH.nil
  go_simp
  refine hK'.out _ _ ⟨C0 _,C1 _,C2 _,C3 _,C4 _,C5 _,C6 _,C7 _,C8 _⟩ (fun E=>?_);clear hK' K'
  (try simp only[Act.put,Zf,Zg,Zh])
  refine wpAnyH_ready (rs:=[13]) (by kernel_rfl) (by simp) ?_;refine AllReadyH.cons rfl (fun K' hK'=>?_) AllReadyH.nil
  go_simp
  refine hK'.out _ _ ?_ (fun hz=>?_)
  ·exact⟨C0 _,C1 _,C2 _,C3 _,C4 _,C5 _,C6 _,C7 _,C8 _⟩
  clear hK' K'
  (try simp only[Act.put,Zf,Zg,Zh])
  refine wpAnyH_done (by kernel_rfl) ?_ _;exact F.o nk B _ _ _ _ _ _ _ _ _ _ _ _ _ (((Zc _ _).drew.alloc (Zb _) _)) (by simp) (aA.new w5.drew _ _)
 ·go_simp
  refine hK'.out _ _ ⟨C0 _,C1 _,C2 _,C3 _,C4 _,C5 _,C6 _,C7 _,C8 _⟩ (fun D=>?_);clear hK' K'
  (try simp only[Act.put,Zf,Zg,Zh])
  refine wpAnyH_ready (rs:=[9]) (by kernel_rfl) (by simp) ?_;refine AllReadyH.cons rfl (fun K' hK'=>?_) AllReadyH.nil
  go_simp
  go_at_call 100
  refine(sK k hk _).mono ?_;rintro e w' ⟨⟨nk,rfl,B⟩,rfl⟩;refine hK'.out _ _ ⟨C0 _,C1 _,C2 _,C3 _,C4 _,C5 _,C6 _,C7 _,C8 _⟩ (fun E=>?_);clear hK' K';have A:¬9223372036854775807<name.size+nk.size:=(by omega)
  (try simp only[Act.put,Zf,Zg,Zh])
  refine tu 10 ?_;refine tu 11 ?_;refine wpAnyH_ready (rs:=[13]) (by kernel_rfl) (by simp) ?_;refine AllReadyH.cons rfl (fun K' hK'=>?_) AllReadyH.nil
  go_simp
  refine hK'.out _ _ ?_ (fun hz=>?_)
  ·exact⟨C0 _,C1 _,C2 _,C3 _,C4 _,C5 _,C6 _,C7 _,C8 _⟩
  clear hK' K'
  (try simp only[Act.put,Zf,Zg,Zh])
  refine wpAnyH_done (by kernel_rfl) ?_ _;exact F.o nk B _ _ _ _ _ _ _ _ _ _ _ _ _ (((Zc _ _).drew.alloc (Zb _) _)) (by simp) (aA.new w5.drew _ _)
