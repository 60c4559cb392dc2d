import Derived.Test.YtjcagpcpbfmldaaX7a
set_option linter.unusedVariables false
set_option linter.unusedSimpArgs false
set_option maxRecDepth 100000
set_option maxHeartbeats 0
namespace Go.Proofs
open Gw Go.RowKit
attribute [local irreducible] Gw.WP Gw.WPI Gw.WPL Gw.WA Gw.WQ Gw.PR Gw.Op1 Gw.Ret Go.Exit.then Go.Exit.inBlock Go.wpOpIn
theorem g_HeapLeast_b (fuel : Nat) (r : Bool) (s1 : Value) (l2 : List TNode) (s3 : Value) (l4 : List Ttarnlaw13_Act) (w0 : World) (hs1 : Rd fTNode (hp no w0) s1 l2) (hs3 : Rd fTtarnlaw13_Act (hp no w0) s3 l4) (b5 b13 b17 b675 : Nat) (x29 x30 x31 x32 x33 x34 x35 x36 : TRank) (g41 g42 g43 g44 g45 g46 g47 g48 g49 g50 g51 g52 g53 g54 g55 g56 g57 g58 g59 g60 g61 g62 g63 g64 g65 g66 g67 g68 g69 g70 g71 g72 g73 g74 g75 g76 g77 g78 g79 g80 g81 g82 g83 g84 g85 g86 g87 g88 g89 g90 g91 g92 g93 g94 g95 g96 g97 g98 g99 g100 g101 g102 g103 g104 g105 g106 g107 g108 g109 g110 g111 g112 g113 g114 g115 g116 g117 g118 g119 g120 g121 g122 g123 g124 g125 g126 g127 g128 g129 g130 : Value) (K852 : TNode → Bool → Bool → Bool → Bool → Bool → Bool → Bool → Bool → (List TNode) → Option Bool) (Y : Act → World → Prop) :
    ∀ (n : Nat) (a : Act) (w : World), (fun n a w => ∃ (x853 : TNode) (c854 : Bool) (c855 : Bool) (c856 : Bool) (c857 : Bool) (c858 : Bool) (c859 : Bool) (c860 : Bool) (c861 : Bool) (l864 : List TNode) (c866 : Bool) (x867 : Int) (s865 : Value) (g862 : Value) (g868 : Value) (g869 : Value) (g870 : Value) (g871 : Value) (g872 : Value) (g873 : Value) (g874 : Value) (g875 : Value) (g876 : Value) (g877 : Value) (g878 : Value) (g879 : Value) (g880 : Value) (g881 : Value) (g882 : Value) (g883 : Value) (g884 : Value) (g885 : Value) (g886 : Value) (g887 : Value) (g888 : Value) (g889 : Value) (g890 : Value) (g891 : Value) (g892 : Value) (g893 : Value) (g894 : Value) (g895 : Value) (g896 : Value) (g897 : Value) (g898 : Value) (g899 : Value) (g900 : Value) (g901 : Value) (g902 : Value) (g903 : Value) (g904 : Value) (g905 : Value) (g906 : Value) (g907 : Value) (g908 : Value) (g909 : Value) (g910 : Value) (g911 : Value) (g912 : Value) (g913 : Value) (g914 : Value) (g915 : Value) (g916 : Value) (g917 : Value) (g918 : Value) (g919 : Value) (g920 : Value) (g921 : Value) (g922 : Value) (g923 : Value) (g924 : Value) (g925 : Value) (g926 : Value) (g927 : Value) (g928 : Value) (g929 : Value) (g930 : Value) (g931 : Value) (g932 : Value) (g933 : Value) (g934 : Value) (g935 : Value) (g936 : Value) (g937 : Value), a = ⟨#[.agg #[s1, s3], vp b5 0, g862, s865, vp b13 0, vp b17 0, g41, g42, g43, g44, g45, vp b675 0, vb c866, vi x867, g868, g869, g870, g871, Z, .agg #[s1, s3], vb false, g46, g47, g48, g49, g50, g51, g52, g53, g54, g55, g56, g57, g58, g59, g60, g61, g62, g63, g64, g65, g66, g67, g68, g69, g70, g71, g72, g73, g74, g75, g76, g77, g78, g79, g80, g81, g82, g83, g84, g85, g86, g87, g88, g89, g90, g91, g92, g93, g94, g95, g96, g97, g98, g99, g100, g101, g102, g103, g104, g105, g106, g107, g108, g109, g110, g111, g112, g113, g114, g115, g116, g117, g118, g119, g120, g121, g122, g123, g124, g125, g126, g127, g128, g129, g130, .agg #[vi 0, vi 0, vu 0, vu 0, vu 0, vu 0], g872, g873, g874, g875, g876, g877, g878, g879, g880, g881, g882, g883, g884, g885, g886, g887, g888, g889, g890, g891, g892, g893, g894, g895, g896, g897, g898, g899, g900, g901, g902, g903, g904, g905, g906, g907, g908, g909, g910, g911, g912, g913, g914, g915, g916, g917, g918, g919, g920, g921, g922, g923, g924, g925, g926, g927, g928, g929, g930, g931, g932, g933, g934, g935, g936, g937, Z, Z, Z, Z, Z, Z, Z, Z, Z, Z, Z, Z, Z], []⟩ ∧ St no w0 w [Box b675 (TNode.cs x853).toArray 33, Box b17 #[vb c854, vb c855, vb c856, vb c857, vb c858, vb c859, vb c860, vb c861] 43, Box b13 #[vi x29.Dist, vu x29.Tip.e0, vu x29.Tip.e1, vu x29.Tip.e2, vu x29.Tip.e3, vi x30.Dist, vu x30.Tip.e0, vu x30.Tip.e1, vu x30.Tip.e2, vu x30.Tip.e3, vi x31.Dist, vu x31.Tip.e0, vu x31.Tip.e1, vu x31.Tip.e2, vu x31.Tip.e3, vi x32.Dist, vu x32.Tip.e0, vu x32.Tip.e1, vu x32.Tip.e2, vu x32.Tip.e3, vi x33.Dist, vu x33.Tip.e0, vu x33.Tip.e1, vu x33.Tip.e2, vu x33.Tip.e3, vi x34.Dist, vu x34.Tip.e0, vu x34.Tip.e1, vu x34.Tip.e2, vu x34.Tip.e3, vi x35.Dist, vu x35.Tip.e0, vu x35.Tip.e1, vu x35.Tip.e2, vu x35.Tip.e3, vi x36.Dist, vu x36.Tip.e0, vu x36.Tip.e1, vu x36.Tip.e2, vu x36.Tip.e3] 42, Box b5 #[s1, s3] 25, Own fTNode 33 s865 l864] ∧ g_tarnlaw13_HeapLeast_l2 fuel K852 x29 x30 x31 x32 x33 x34 x35 x36 n x853 c854 c855 c856 c857 c858 c859 c860 c861 l864 c866 x867 = some r) n a w →
      WP none Try.prog (cdL (cdL (cdR (cdL (cdR (cdR (cdR (cdR (cdR (cdR (cdR (Try.f7.body.getD .skip)))))))))))) (Exit.then (fun a' w' => ∃ m, m < n ∧ (fun n a w => ∃ (x853 : TNode) (c854 : Bool) (c855 : Bool) (c856 : Bool) (c857 : Bool) (c858 : Bool) (c859 : Bool) (c860 : Bool) (c861 : Bool) (l864 : List TNode) (c866 : Bool) (x867 : Int) (s865 : Value) (g862 : Value) (g868 : Value) (g869 : Value) (g870 : Value) (g871 : Value) (g872 : Value) (g873 : Value) (g874 : Value) (g875 : Value) (g876 : Value) (g877 : Value) (g878 : Value) (g879 : Value) (g880 : Value) (g881 : Value) (g882 : Value) (g883 : Value) (g884 : Value) (g885 : Value) (g886 : Value) (g887 : Value) (g888 : Value) (g889 : Value) (g890 : Value) (g891 : Value) (g892 : Value) (g893 : Value) (g894 : Value) (g895 : Value) (g896 : Value) (g897 : Value) (g898 : Value) (g899 : Value) (g900 : Value) (g901 : Value) (g902 : Value) (g903 : Value) (g904 : Value) (g905 : Value) (g906 : Value) (g907 : Value) (g908 : Value) (g909 : Value) (g910 : Value) (g911 : Value) (g912 : Value) (g913 : Value) (g914 : Value) (g915 : Value) (g916 : Value) (g917 : Value) (g918 : Value) (g919 : Value) (g920 : Value) (g921 : Value) (g922 : Value) (g923 : Value) (g924 : Value) (g925 : Value) (g926 : Value) (g927 : Value) (g928 : Value) (g929 : Value) (g930 : Value) (g931 : Value) (g932 : Value) (g933 : Value) (g934 : Value) (g935 : Value) (g936 : Value) (g937 : Value), a = ⟨#[.agg #[s1, s3], vp b5 0, g862, s865, vp b13 0, vp b17 0, g41, g42, g43, g44, g45, vp b675 0, vb c866, vi x867, g868, g869, g870, g871, Z, .agg #[s1, s3], vb false, g46, g47, g48, g49, g50, g51, g52, g53, g54, g55, g56, g57, g58, g59, g60, g61, g62, g63, g64, g65, g66, g67, g68, g69, g70, g71, g72, g73, g74, g75, g76, g77, g78, g79, g80, g81, g82, g83, g84, g85, g86, g87, g88, g89, g90, g91, g92, g93, g94, g95, g96, g97, g98, g99, g100, g101, g102, g103, g104, g105, g106, g107, g108, g109, g110, g111, g112, g113, g114, g115, g116, g117, g118, g119, g120, g121, g122, g123, g124, g125, g126, g127, g128, g129, g130, .agg #[vi 0, vi 0, vu 0, vu 0, vu 0, vu 0], g872, g873, g874, g875, g876, g877, g878, g879, g880, g881, g882, g883, g884, g885, g886, g887, g888, g889, g890, g891, g892, g893, g894, g895, g896, g897, g898, g899, g900, g901, g902, g903, g904, g905, g906, g907, g908, g909, g910, g911, g912, g913, g914, g915, g916, g917, g918, g919, g920, g921, g922, g923, g924, g925, g926, g927, g928, g929, g930, g931, g932, g933, g934, g935, g936, g937, Z, Z, Z, Z, Z, Z, Z, Z, Z, Z, Z, Z, Z], []⟩ ∧ St no w0 w [Box b675 (TNode.cs x853).toArray 33, Box b17 #[vb c854, vb c855, vb c856, vb c857, vb c858, vb c859, vb c860, vb c861] 43, Box b13 #[vi x29.Dist, vu x29.Tip.e0, vu x29.Tip.e1, vu x29.Tip.e2, vu x29.Tip.e3, vi x30.Dist, vu x30.Tip.e0, vu x30.Tip.e1, vu x30.Tip.e2, vu x30.Tip.e3, vi x31.Dist, vu x31.Tip.e0, vu x31.Tip.e1, vu x31.Tip.e2, vu x31.Tip.e3, vi x32.Dist, vu x32.Tip.e0, vu x32.Tip.e1, vu x32.Tip.e2, vu x32.Tip.e3, vi x33.Dist, vu x33.Tip.e0, vu x33.Tip.e1, vu x33.Tip.e2, vu x33.Tip.e3, vi x34.Dist, vu x34.Tip.e0, vu x34.Tip.e1, vu x34.Tip.e2, vu x34.Tip.e3, vi x35.Dist, vu x35.Tip.e0, vu x35.Tip.e1, vu x35.Tip.e2, vu x35.Tip.e3, vi x36.Dist, vu x36.Tip.e0, vu x36.Tip.e1, vu x36.Tip.e2, vu x36.Tip.e3] 42, Box b5 #[s1, s3] 25, Own fTNode 33 s865 l864] ∧ g_tarnlaw13_HeapLeast_l2 fuel K852 x29 x30 x31 x32 x33 x34 x35 x36 n x853 c854 c855 c856 c857 c858 c859 c860 c861 l864 c866 x867 = some r) m a' w') (Exit.inBlock 2 (Exit.then (fun a w => ∃ (x767 : TNode) (c768 : Bool) (c769 : Bool) (c770 : Bool) (c771 : Bool) (c772 : Bool) (c773 : Bool) (c774 : Bool) (c775 : Bool) (l778 : List TNode) (s779 : Value) (g776 : Value) (g780 : Value) (g781 : Value) (g782 : Value) (g783 : Value) (g784 : Value) (g785 : Value) (g786 : Value) (g787 : Value) (g788 : Value) (g789 : Value) (g790 : Value) (g791 : Value) (g792 : Value) (g793 : Value) (g794 : Value) (g795 : Value) (g796 : Value) (g797 : Value) (g798 : Value) (g799 : Value) (g800 : Value) (g801 : Value) (g802 : Value) (g803 : Value) (g804 : Value) (g805 : Value) (g806 : Value) (g807 : Value) (g808 : Value) (g809 : Value) (g810 : Value) (g811 : Value) (g812 : Value) (g813 : Value) (g814 : Value) (g815 : Value) (g816 : Value) (g817 : Value) (g818 : Value) (g819 : Value) (g820 : Value) (g821 : Value) (g822 : Value) (g823 : Value) (g824 : Value) (g825 : Value) (g826 : Value) (g827 : Value) (g828 : Value) (g829 : Value) (g830 : Value) (g831 : Value) (g832 : Value) (g833 : Value) (g834 : Value) (g835 : Value) (g836 : Value) (g837 : Value) (g838 : Value) (g839 : Value) (g840 : Value) (g841 : Value) (g842 : Value) (g843 : Value) (g844 : Value) (g845 : Value) (g846 : Value) (g847 : Value) (g848 : Value) (g849 : Value) (g850 : Value) (g851 : Value), a = ⟨#[.agg #[s1, s3], vp b5 0, g776, s779, vp b13 0, vp b17 0, g41, g42, g43, g44, g45, vp b675 0, g780, g781, g782, g783, g784, g785, Z, .agg #[s1, s3], vb false, g46, g47, g48, g49, g50, g51, g52, g53, g54, g55, g56, g57, g58, g59, g60, g61, g62, g63, g64, g65, g66, g67, g68, g69, g70, g71, g72, g73, g74, g75, g76, g77, g78, g79, g80, g81, g82, g83, g84, g85, g86, g87, g88, g89, g90, g91, g92, g93, g94, g95, g96, g97, g98, g99, g100, g101, g102, g103, g104, g105, g106, g107, g108, g109, g110, g111, g112, g113, g114, g115, g116, g117, g118, g119, g120, g121, g122, g123, g124, g125, g126, g127, g128, g129, g130, .agg #[vi 0, vi 0, vu 0, vu 0, vu 0, vu 0], g786, g787, g788, g789, g790, g791, g792, g793, g794, g795, g796, g797, g798, g799, g800, g801, g802, g803, g804, g805, g806, g807, g808, g809, g810, g811, g812, g813, g814, g815, g816, g817, g818, g819, g820, g821, g822, g823, g824, g825, g826, g827, g828, g829, g830, g831, g832, g833, g834, g835, g836, g837, g838, g839, g840, g841, g842, g843, g844, g845, g846, g847, g848, g849, g850, g851, Z, Z, Z, Z, Z, Z, Z, Z, Z, Z, Z, Z, Z], []⟩ ∧ St no w0 w [Box b675 (TNode.cs x767).toArray 33, Box b17 #[vb c768, vb c769, vb c770, vb c771, vb c772, vb c773, vb c774, vb c775] 43, Box b13 #[vi x29.Dist, vu x29.Tip.e0, vu x29.Tip.e1, vu x29.Tip.e2, vu x29.Tip.e3, vi x30.Dist, vu x30.Tip.e0, vu x30.Tip.e1, vu x30.Tip.e2, vu x30.Tip.e3, vi x31.Dist, vu x31.Tip.e0, vu x31.Tip.e1, vu x31.Tip.e2, vu x31.Tip.e3, vi x32.Dist, vu x32.Tip.e0, vu x32.Tip.e1, vu x32.Tip.e2, vu x32.Tip.e3, vi x33.Dist, vu x33.Tip.e0, vu x33.Tip.e1, vu x33.Tip.e2, vu x33.Tip.e3, vi x34.Dist, vu x34.Tip.e0, vu x34.Tip.e1, vu x34.Tip.e2, vu x34.Tip.e3, vi x35.Dist, vu x35.Tip.e0, vu x35.Tip.e1, vu x35.Tip.e2, vu x35.Tip.e3, vi x36.Dist, vu x36.Tip.e0, vu x36.Tip.e1, vu x36.Tip.e2, vu x36.Tip.e3] 42, Box b5 #[s1, s3] 25, Own fTNode 33 s779 l778] ∧ K852 x767 c768 c769 c770 c771 c772 c773 c774 c775 l778 = some r) (Exit.then Y (Post Try.prog Try.f7 (fun v w' => v = vb r ∧ St no w0 w' [])))))) a w := by
  intro n a w hq
  refine Exists.elim hq fun x853 hq => Exists.elim hq fun c854 hq => Exists.elim hq fun c855 hq => Exists.elim hq fun c856 hq => Exists.elim hq fun c857 hq => Exists.elim hq fun c858 hq => Exists.elim hq fun c859 hq => Exists.elim hq fun c860 hq => Exists.elim hq fun c861 hq => Exists.elim hq fun l864 hq => Exists.elim hq fun c866 hq => Exists.elim hq fun x867 hq => Exists.elim hq fun s865 hq => Exists.elim hq fun g862 hq => Exists.elim hq fun g868 hq => Exists.elim hq fun g869 hq => Exists.elim hq fun g870 hq => Exists.elim hq fun g871 hq => Exists.elim hq fun g872 hq => Exists.elim hq fun g873 hq => Exists.elim hq fun g874 hq => Exists.elim hq fun g875 hq => Exists.elim hq fun g876 hq => Exists.elim hq fun g877 hq => Exists.elim hq fun g878 hq => Exists.elim hq fun g879 hq => Exists.elim hq fun g880 hq => Exists.elim hq fun g881 hq => Exists.elim hq fun g882 hq => Exists.elim hq fun g883 hq => Exists.elim hq fun g884 hq => Exists.elim hq fun g885 hq => Exists.elim hq fun g886 hq => Exists.elim hq fun g887 hq => Exists.elim hq fun g888 hq => Exists.elim hq fun g889 hq => Exists.elim hq fun g890 hq => Exists.elim hq fun g891 hq => Exists.elim hq fun g892 hq => Exists.elim hq fun g893 hq => Exists.elim hq fun g894 hq => Exists.elim hq fun g895 hq => Exists.elim hq fun g896 hq => Exists.elim hq fun g897 hq => Exists.elim hq fun g898 hq => Exists.elim hq fun g899 hq => Exists.elim hq fun g900 hq => Exists.elim hq fun g901 hq => Exists.elim hq fun g902 hq => Exists.elim hq fun g903 hq => Exists.elim hq fun g904 hq => Exists.elim hq fun g905 hq => Exists.elim hq fun g906 hq => Exists.elim hq fun g907 hq => Exists.elim hq fun g908 hq => Exists.elim hq fun g909 hq => Exists.elim hq fun g910 hq => Exists.elim hq fun g911 hq => Exists.elim hq fun g912 hq => Exists.elim hq fun g913 hq => Exists.elim hq fun g914 hq => Exists.elim hq fun g915 hq => Exists.elim hq fun g916 hq => Exists.elim hq fun g917 hq => Exists.elim hq fun g918 hq => Exists.elim hq fun g919 hq => Exists.elim hq fun g920 hq => Exists.elim hq fun g921 hq => Exists.elim hq fun g922 hq => Exists.elim hq fun g923 hq => Exists.elim hq fun g924 hq => Exists.elim hq fun g925 hq => Exists.elim hq fun g926 hq => Exists.elim hq fun g927 hq => Exists.elim hq fun g928 hq => Exists.elim hq fun g929 hq => Exists.elim hq fun g930 hq => Exists.elim hq fun g931 hq => Exists.elim hq fun g932 hq => Exists.elim hq fun g933 hq => Exists.elim hq fun g934 hq => Exists.elim hq fun g935 hq => Exists.elim hq fun g936 hq => Exists.elim hq fun g937 hq => ?_
  obtain ⟨rfl, H, h⟩ := hq
  cases n with
  | zero => rw [g_tarnlaw13_HeapLeast_l2] at h; cases h
  | succ n =>
    rw [g_tarnlaw13_HeapLeast_l2] at h
    obtain ⟨w938, rfl⟩ : ∃ x, x = w := ⟨_, rfl⟩
    have H939 := H; clear H
    have sf940 := Own.isSl (St.get H939 4 rfl)
    refine WP.seq ?_
    refine WP.seq ?_
    refine WP.region ?_
    obtain ⟨c941, hc941, h⟩ := lt_some h
    refine WPI.run 2 ⟨#[.agg #[s1, s3], vp b5 0, g862, s865, vp b13 0, vp b17 0, g41, g42, g43, g44, g45, vp b675 0, vb c866, vi x867, g868, g869, g870, g871, Z, .agg #[s1, s3], vb false, g46, g47, g48, g49, g50, g51, g52, g53, g54, g55, g56, g57, g58, g59, g60, g61, g62, g63, g64, g65, g66, g67, g68, g69, g70, g71, g72, g73, g74, g75, g76, g77, g78, g79, g80, g81, g82, g83, g84, g85, g86, g87, g88, g89, g90, g91, g92, g93, g94, g95, g96, g97, g98, g99, g100, g101, g102, g103, g104, g105, g106, g107, g108, g109, g110, g111, g112, g113, g114, g115, g116, g117, g118, g119, g120, g121, g122, g123, g124, g125, g126, g127, g128, g129, g130, .agg #[vi 0, vi 0, vu 0, vu 0, vu 0, vu 0], vi x867, vb c941, g874, g875, g876, g877, g878, g879, g880, g881, g882, g883, g884, g885, g886, g887, g888, g889, g890, g891, g892, g893, g894, g895, g896, g897, g898, g899, g900, g901, g902, g903, g904, g905, g906, g907, g908, g909, g910, g911, g912, g913, g914, g915, g916, g917, g918, g919, g920, g921, g922, g923, g924, g925, g926, g927, g928, g929, g930, g931, g932, g933, g934, g935, g936, g937, Z, Z, Z, Z, Z, Z, Z, Z, Z, Z, Z, Z, Z], []⟩ w938 (fun K => by subst hc941; kernel_rfl) ?_
    refine WPI.done rfl ?_
    refine then_n ?_
    cases c941 with
    | false =>
      replace h := br_f h
      refine WP.condF (by kernel_rfl) ?_
      refine WP.exit ?_
      exact then_e (then_e (inb_e (then_n ⟨x853, c854, c855, c856, c857, c858, c859, c860, c861, l864, s865, _, _, _, _, _, _, _, _, _, _, _, _, _, _, _, _, _, _, _, _, _, _, _, _, _, _, _, _, _, _, _, _, _, _, _, _, _, _, _, _, _, _, _, _, _, _, _, _, _, _, _, _, _, _, _, _, _, _, _, _, _, _, _, _, _, _, _, _, _, _, _, _, _, rfl, St.sel H939 [0, 1, 2, 3, 4] (by decide) rfl, h⟩)))
    | true =>
      replace h := br_t h
      refine WP.condT (by kernel_rfl) ?_
      refine WP.skip ?_
      refine then_n ?_
      refine WP.seq ?_
      refine WP.block ?_
      refine WP.seq ?_
      refine WP.region ?_
      obtain ⟨t942, ht942, h⟩ := bd_some h
      refine WPI.run 1 ⟨#[.agg #[s1, s3], vp b5 0, g862, s865, vp b13 0, vp b17 0, g41, g42, g43, g44, g45, vp b675 0, vb c866, vi x867, g868, g869, g870, g871, Z, .agg #[s1, s3], vb false, g46, g47, g48, g49, g50, g51, g52, g53, g54, g55, g56, g57, g58, g59, g60, g61, g62, g63, g64, g65, g66, g67, g68, g69, g70, g71, g72, g73, g74, g75, g76, g77, g78, g79, g80, g81, g82, g83, g84, g85, g86, g87, g88, g89, g90, g91, g92, g93, g94, g95, g96, g97, g98, g99, g100, g101, g102, g103, g104, g105, g106, g107, g108, g109, g110, g111, g112, g113, g114, g115, g116, g117, g118, g119, g120, g121, g122, g123, g124, g125, g126, g127, g128, g129, g130, .agg #[vi 0, vi 0, vu 0, vu 0, vu 0, vu 0], vi x867, vb true, g874, g875, g876, s865, g878, g879, g880, g881, g882, g883, g884, g885, g886, g887, g888, g889, g890, g891, g892, g893, g894, g895, g896, g897, g898, g899, g900, g901, g902, g903, g904, g905, g906, g907, g908, g909, g910, g911, g912, g913, g914, g915, g916, g917, g918, g919, g920, g921, g922, g923, g924, g925, g926, g927, g928, g929, g930, g931, g932, g933, g934, g935, g936, g937, Z, Z, Z, Z, Z, Z, Z, Z, Z, Z, Z, Z, Z], []⟩ w938 (fun K => by kernel_rfl) ?_
      refine WPI.op rfl (Op1.call (by kernel_rfl) (by kernel_rfl) (g_heap_Least_w fuel s865 l864 t942 ht942 _ (St.rd H939 4 rfl)) ?_)
      rintro _ w943 ⟨rfl, Hc944⟩
      have H945 := St.call0' H939 Hc944
      clear H939 Hc944
      refine WPI.run 3 ⟨#[.agg #[s1, s3], vp b5 0, g862, s865, vp b13 0, vp b17 0, g41, g42, g43, g44, g45, vp b675 0, vb c866, vi x867, g868, g869, g870, g871, Z, .agg #[s1, s3], vb false, g46, g47, g48, g49, g50, g51, g52, g53, g54, g55, g56, g57, g58, g59, g60, g61, g62, g63, g64, g65, g66, g67, g68, g69, g70, g71, g72, g73, g74, g75, g76, g77, g78, g79, g80, g81, g82, g83, g84, g85, g86, g87, g88, g89, g90, g91, g92, g93, g94, g95, g96, g97, g98, g99, g100, g101, g102, g103, g104, g105, g106, g107, g108, g109, g110, g111, g112, g113, g114, g115, g116, g117, g118, g119, g120, g121, g122, g123, g124, g125, g126, g127, g128, g129, g130, .agg #[vi 0, vi 0, vu 0, vu 0, vu 0, vu 0], vi x867, vb true, g874, g875, .tuple #[TNode.val t942.1, vi t942.2], s865, .tuple #[TNode.val t942.1, vi t942.2], TNode.val t942.1, vi t942.2, g881, g882, g883, g884, g885, g886, g887, g888, g889, g890, g891, g892, g893, g894, g895, g896, g897, g898, g899, g900, g901, g902, g903, g904, g905, g906, g907, g908, g909, g910, g911, g912, g913, g914, g915, g916, g917, g918, g919, g920, g921, g922, g923, g924, g925, g926, g927, g928, g929, g930, g931, g932, g933, g934, g935, g936, g937, Z, Z, Z, Z, Z, Z, Z, Z, Z, Z, Z, Z, Z], []⟩ w943 (fun K => by kernel_rfl) ?_
      refine WPI.op rfl (Op1.alloc H945 #[vi 0, vi 0, vu 0, vu 0, vu 0, vu 0] (by kernel_rfl) 33 rfl (by kernel_rfl) (fun b946 w948 H949 => ?_))
      clear H945
      refine WPI.run 0 ⟨#[.agg #[s1, s3], vp b5 0, g862, s865, vp b13 0, vp b17 0, g41, g42, g43, g44, g45, vp b675 0, vb c866, vi x867, vp b946 0, g869, g870, g871, Z, .agg #[s1, s3], vb false, g46, g47, g48, g49, g50, g51, g52, g53, g54, g55, g56, g57, g58, g59, g60, g61, g62, g63, g64, g65, g66, g67, g68, g69, g70, g71, g72, g73, g74, g75, g76, g77, g78, g79, g80, g81, g82, g83, g84, g85, g86, g87, g88, g89, g90, g91, g92, g93, g94, g95, g96, g97, g98, g99, g100, g101, g102, g103, g104, g105, g106, g107, g108, g109, g110, g111, g112, g113, g114, g115, g116, g117, g118, g119, g120, g121, g122, g123, g124, g125, g126, g127, g128, g129, g130, .agg #[vi 0, vi 0, vu 0, vu 0, vu 0, vu 0], vi x867, vb true, g874, g875, .tuple #[TNode.val t942.1, vi t942.2], s865, .tuple #[TNode.val t942.1, vi t942.2], TNode.val t942.1, vi t942.2, g881, g882, g883, g884, g885, g886, g887, g888, g889, g890, g891, g892, g893, g894, g895, g896, g897, g898, g899, g900, g901, g902, g903, g904, g905, g906, g907, g908, g909, g910, g911, g912, g913, g914, g915, g916, g917, g918, g919, g920, g921, g922, g923, g924, g925, g926, g927, g928, g929, g930, g931, g932, g933, g934, g935, g936, g937, Z, Z, Z, Z, Z, Z, Z, Z, Z, Z, Z, Z, Z], []⟩ w948 (fun K => by kernel_rfl) ?_
      refine WPI.op rfl (Op1.storeBox H949 0 rfl (by kernel_rfl) 33 (.tmp 14) (.tmp 114) 0 (TNode.val t942.1) (TNode.cs t942.1).toArray true rfl (by kernel_rfl) (by kernel_rfl) (by kernel_rfl) (by kernel_rfl) (by kernel_rfl) (flat_one1 fTNode t942.1) (fun w950 H951 => ?_))
      clear H949
      refine WPI.run 1 ⟨#[.agg #[s1, s3], vp b5 0, g862, s865, vp b13 0, vp b17 0, g41, g42, g43, g44, g45, vp b675 0, vb c866, vi x867, vp b946 0, vi t942.2, g870, g871, Z, .agg #[s1, s3], vb false, g46, g47, g48, g49, g50, g51, g52, g53, g54, g55, g56, g57, g58, g59, g60, g61, g62, g63, g64, g65, g66, g67, g68, g69, g70, g71, g72, g73, g74, g75, g76, g77, g78, g79, g80, g81, g82, g83, g84, g85, g86, g87, g88, g89, g90, g91, g92, g93, g94, g95, g96, g97, g98, g99, g100, g101, g102, g103, g104, g105, g106, g107, g108, g109, g110, g111, g112, g113, g114, g115, g116, g117, g118, g119, g120, g121, g122, g123, g124, g125, g126, g127, g128, g129, g130, .agg #[vi 0, vi 0, vu 0, vu 0, vu 0, vu 0], vi x867, vb true, g874, g875, .tuple #[TNode.val t942.1, vi t942.2], s865, .tuple #[TNode.val t942.1, vi t942.2], TNode.val t942.1, vi t942.2, g881, g882, g883, g884, g885, g886, g887, g888, g889, g890, g891, g892, g893, g894, g895, g896, g897, g898, g899, g900, g901, g902, g903, g904, g905, g906, g907, g908, g909, g910, g911, g912, g913, g914, g915, g916, g917, g918, g919, g920, g921, g922, g923, g924, g925, g926, g927, g928, g929, g930, g931, g932, g933, g934, g935, g936, g937, Z, Z, Z, Z, Z, Z, Z, Z, Z, Z, Z, Z, Z], []⟩ w950 (fun K => by kernel_rfl) ?_
      refine WPI.done rfl ?_
      refine then_n ?_
      refine WP.seq ?_
      refine WP.seq ?_
      refine WP.region ?_
      obtain ⟨t952, ht952, h⟩ := bd_some h
      refine WPI.run 1 ⟨#[.agg #[s1, s3], vp b5 0, g862, s865, vp b13 0, vp b17 0, g41, g42, g43, g44, g45, vp b675 0, vb c866, vi x867, vp b946 0, vi t942.2, g870, g871, Z, .agg #[s1, s3], vb false, g46, g47, g48, g49, g50, g51, g52, g53, g54, g55, g56, g57, g58, g59, g60, g61, g62, g63, g64, g65, g66, g67, g68, g69, g70, g71, g72, g73, g74, g75, g76, g77, g78, g79, g80, g81, g82, g83, g84, g85, g86, g87, g88, g89, g90, g91, g92, g93, g94, g95, g96, g97, g98, g99, g100, g101, g102, g103, g104, g105, g106, g107, g108, g109, g110, g111, g112, g113, g114, g115, g116, g117, g118, g119, g120, g121, g122, g123, g124, g125, g126, g127, g128, g129, g130, .agg #[vi 0, vi 0, vu 0, vu 0, vu 0, vu 0], vi x867, vb true, g874, g875, .tuple #[TNode.val t942.1, vi t942.2], s865, .tuple #[TNode.val t942.1, vi t942.2], TNode.val t942.1, vi t942.2, vi t942.2, g882, g883, g884, g885, g886, g887, g888, g889, g890, g891, g892, g893, g894, g895, g896, g897, g898, g899, g900, g901, g902, g903, g904, g905, g906, g907, g908, g909, g910, g911, g912, g913, g914, g915, g916, g917, g918, g919, g920, g921, g922, g923, g924, g925, g926, g927, g928, g929, g930, g931, g932, g933, g934, g935, g936, g937, Z, Z, Z, Z, Z, Z, Z, Z, Z, Z, Z, Z, Z], []⟩ w950 (fun K => by kernel_rfl) ?_
      refine WPI.op rfl (Op1.call (by kernel_rfl) (by kernel_rfl) (g_tarnlaw13_num_w fuel t942.2 t952 ht952 _) ?_)
      rintro _ w953 ⟨rfl, Hc954⟩
      have H955 := St.call0' H951 Hc954
      clear H951 Hc954
      obtain ⟨c956, hc956, h⟩ := lt_some h
      refine WPI.run 1 ⟨#[.agg #[s1, s3], vp b5 0, g862, s865, vp b13 0, vp b17 0, g41, g42, g43, g44, g45, vp b675 0, vb c866, vi x867, vp b946 0, vi t942.2, g870, g871, Z, .agg #[s1, s3], vb false, g46, g47, g48, g49, g50, g51, g52, g53, g54, g55, g56, g57, g58, g59, g60, g61, g62, g63, g64, g65, g66, g67, g68, g69, g70, g71, g72, g73, g74, g75, g76, g77, g78, g79, g80, g81, g82, g83, g84, g85, g86, g87, g88, g89, g90, g91, g92, g93, g94, g95, g96, g97, g98, g99, g100, g101, g102, g103, g104, g105, g106, g107, g108, g109, g110, g111, g112, g113, g114, g115, g116, g117, g118, g119, g120, g121, g122, g123, g124, g125, g126, g127, g128, g129, g130, .agg #[vi 0, vi 0, vu 0, vu 0, vu 0, vu 0], vi x867, vb true, g874, g875, .tuple #[TNode.val t942.1, vi t942.2], s865, .tuple #[TNode.val t942.1, vi t942.2], TNode.val t942.1, vi t942.2, vi t942.2, vi t952, vb c956, g884, g885, g886, g887, g888, g889, g890, g891, g892, g893, g894, g895, g896, g897, g898, g899, g900, g901, g902, g903, g904, g905, g906, g907, g908, g909, g910, g911, g912, g913, g914, g915, g916, g917, g918, g919, g920, g921, g922, g923, g924, g925, g926, g927, g928, g929, g930, g931, g932, g933, g934, g935, g936, g937, Z, Z, Z, Z, Z, Z, Z, Z, Z, Z, Z, Z, Z], []⟩ w953 (fun K => by subst hc956; kernel_rfl) ?_
      refine WPI.done rfl ?_
      refine then_n ?_
      cases c956 with
      | false =>
        replace h := br_f h
        refine WP.condF (by kernel_rfl) ?_
        refine WP.skip ?_
        refine then_n ?_
        refine WP.seq ?_
        refine WP.seq ?_
        obtain ⟨K996, hK996, h⟩ := jn_some h
        refine WP.onlyN (fun a w => ∃ (c995 : Bool) (g957 : Value) (g958 : Value) (g959 : Value) (g960 : Value) (g961 : Value) (g962 : Value) (g963 : Value) (g964 : Value) (g965 : Value) (g966 : Value) (g967 : Value) (g968 : Value) (g969 : Value) (g970 : Value) (g971 : Value) (g972 : Value) (g973 : Value) (g974 : Value) (g975 : Value) (g976 : Value) (g977 : Value) (g978 : Value) (g979 : Value) (g980 : Value) (g981 : Value) (g982 : Value) (g983 : Value) (g984 : Value) (g985 : Value) (g986 : Value) (g987 : Value) (g988 : Value) (g989 : Value) (g990 : Value) (g991 : Value) (g992 : Value) (g993 : Value) (g994 : Value), a = ⟨#[.agg #[s1, s3], vp b5 0, g862, s865, vp b13 0, vp b17 0, g41, g42, g43, g44, g45, vp b675 0, vb c866, vi x867, vp b946 0, vi t942.2, g870, g871, Z, .agg #[s1, s3], vb false, g46, g47, g48, g49, g50, g51, g52, g53, g54, g55, g56, g57, g58, g59, g60, g61, g62, g63, g64, g65, g66, g67, g68, g69, g70, g71, g72, g73, g74, g75, g76, g77, g78, g79, g80, g81, g82, g83, g84, g85, g86, g87, g88, g89, g90, g91, g92, g93, g94, g95, g96, g97, g98, g99, g100, g101, g102, g103, g104, g105, g106, g107, g108, g109, g110, g111, g112, g113, g114, g115, g116, g117, g118, g119, g120, g121, g122, g123, g124, g125, g126, g127, g128, g129, g130, .agg #[vi 0, vi 0, vu 0, vu 0, vu 0, vu 0], vi x867, vb true, g874, g875, .tuple #[TNode.val t942.1, vi t942.2], s865, .tuple #[TNode.val t942.1, vi t942.2], TNode.val t942.1, vi t942.2, vi t942.2, vi t952, vb false, g957, g958, g959, g960, g961, g962, g963, g964, g965, g966, g967, g968, g969, g970, g971, g972, g973, g974, g975, g976, g977, g978, g979, g980, g981, g982, g983, g984, g985, g986, g987, g988, g989, g990, g991, g992, g993, g994, vb c995, g923, g924, g925, g926, g927, g928, g929, g930, g931, g932, g933, g934, g935, g936, g937, Z, Z, Z, Z, Z, Z, Z, Z, Z, Z, Z, Z, Z], []⟩ ∧ St no w0 w [Box b946 (TNode.cs t942.1).toArray 33, Box b675 (TNode.cs x853).toArray 33, Box b17 #[vb c854, vb c855, vb c856, vb c857, vb c858, vb c859, vb c860, vb c861] 43, Box b13 #[vi x29.Dist, vu x29.Tip.e0, vu x29.Tip.e1, vu x29.Tip.e2, vu x29.Tip.e3, vi x30.Dist, vu x30.Tip.e0, vu x30.Tip.e1, vu x30.Tip.e2, vu x30.Tip.e3, vi x31.Dist, vu x31.Tip.e0, vu x31.Tip.e1, vu x31.Tip.e2, vu x31.Tip.e3, vi x32.Dist, vu x32.Tip.e0, vu x32.Tip.e1, vu x32.Tip.e2, vu x32.Tip.e3, vi x33.Dist, vu x33.Tip.e0, vu x33.Tip.e1, vu x33.Tip.e2, vu x33.Tip.e3, vi x34.Dist, vu x34.Tip.e0, vu x34.Tip.e1, vu x34.Tip.e2, vu x34.Tip.e3, vi x35.Dist, vu x35.Tip.e0, vu x35.Tip.e1, vu x35.Tip.e2, vu x35.Tip.e3, vi x36.Dist, vu x36.Tip.e0, vu x36.Tip.e1, vu x36.Tip.e2, vu x36.Tip.e3] 42, Box b5 #[s1, s3] 25, Own fTNode 33 s865 l864] ∧ K996 c995 = some r) ?_ ?_
        · skip
          refine WP.quiet (by kernel_rfl) (by kernel_rfl) (by kernel_rfl) (fun w => St no w0 w [Box b946 (TNode.cs t942.1).toArray 33, Box b675 (TNode.cs x853).toArray 33, Box b17 #[vb c854, vb c855, vb c856, vb c857, vb c858, vb c859, vb c860, vb c861] 43, Box b13 #[vi x29.Dist, vu x29.Tip.e0, vu x29.Tip.e1, vu x29.Tip.e2, vu x29.Tip.e3, vi x30.Dist, vu x30.Tip.e0, vu x30.Tip.e1, vu x30.Tip.e2, vu x30.Tip.e3, vi x31.Dist, vu x31.Tip.e0, vu x31.Tip.e1, vu x31.Tip.e2, vu x31.Tip.e3, vi x32.Dist, vu x32.Tip.e0, vu x32.Tip.e1, vu x32.Tip.e2, vu x32.Tip.e3, vi x33.Dist, vu x33.Tip.e0, vu x33.Tip.e1, vu x33.Tip.e2, vu x33.Tip.e3, vi x34.Dist, vu x34.Tip.e0, vu x34.Tip.e1, vu x34.Tip.e2, vu x34.Tip.e3, vi x35.Dist, vu x35.Tip.e0, vu x35.Tip.e1, vu x35.Tip.e2, vu x35.Tip.e3, vi x36.Dist, vu x36.Tip.e0, vu x36.Tip.e1, vu x36.Tip.e2, vu x36.Tip.e3] 42, Box b5 #[s1, s3] 25, Own fTNode 33 s865 l864]) (St.drew H955) ?_
          refine WQ.value (v := vi t942.2) rfl (by kernel_rfl) (fun w _ => by kernel_rfl) ?_
          obtain ⟨t997, ht997, h⟩ := bd_some h
          refine WQ.call (v := vi t997) rfl (by kernel_rfl) (fun w => by kernel_rfl) (fun w H => Ret.mono (g_tarnlaw13_num_w fuel t942.2 t997 ht997 _) fun u w1 hu => ⟨hu.1, St.call0' H hu.2⟩) ?_
          obtain ⟨c998, hc998, h⟩ := lt_some h
          refine WQ.value (v := vb c998) rfl (by kernel_rfl) (fun w _ => by subst hc998; kernel_rfl) ?_
          refine WQ.value (v := vb c998) rfl (by kernel_rfl) (fun w _ => by kernel_rfl) ?_
          cases c998 with
          | false =>
            replace h := br_f h
            refine WQ.value (v := vp b946 0) rfl (by kernel_rfl) (fun w _ => by kernel_rfl) ?_
            refine WQ.value (v := vi t942.1.Acct) rfl (by kernel_rfl) (fun w H => ev_loadBox H 0 rfl 3 (.tmp 123) 0 (vi t942.1.Acct) rfl (by kernel_rfl) (by kernel_rfl)) ?_
            obtain ⟨c999, hc999, h⟩ := lt_some h
            refine WQ.value (v := vb c999) rfl (by kernel_rfl) (fun w _ => by subst hc999; kernel_rfl) ?_
            refine WQ.value (v := vb c999) rfl (by kernel_rfl) (fun w _ => by kernel_rfl) ?_
            refine WQ.value (v := vb c999) rfl (by kernel_rfl) (fun w _ => by kernel_rfl) ?_
            cases c999 with
            | false =>
              replace h := br_f h
              refine WQ.value (v := vp b946 0) rfl (by kernel_rfl) (fun w _ => by kernel_rfl) ?_
              refine WQ.value (v := vi t942.1.Acct) rfl (by kernel_rfl) (fun w H => ev_loadBox H 0 rfl 3 (.tmp 128) 0 (vi t942.1.Acct) rfl (by kernel_rfl) (by kernel_rfl)) ?_
              obtain ⟨c1000, hc1000, h⟩ := lt_some h
              refine WQ.value (v := vb c1000) rfl (by kernel_rfl) (fun w _ => by subst hc1000; kernel_rfl) ?_
              refine WQ.value (v := vb c1000) rfl (by kernel_rfl) (fun w _ => by kernel_rfl) ?_
              refine WQ.value (v := vb c1000) rfl (by kernel_rfl) (fun w _ => by kernel_rfl) ?_
              cases c1000 with
              | false =>
                replace h := br_f h
                refine WQ.value (v := vp b946 0) rfl (by kernel_rfl) (fun w _ => by kernel_rfl) ?_
                refine WQ.value (v := vi t942.1.Acct) rfl (by kernel_rfl) (fun w H => ev_loadBox H 0 rfl 3 (.tmp 133) 0 (vi t942.1.Acct) rfl (by kernel_rfl) (by kernel_rfl)) ?_
                obtain ⟨hg1001, h⟩ := gd_some h
                refine WQ.value (v := va (((⟨b17, 0, none⟩ : Addr).add 0).add (Int.toNat t942.1.Acct * 1))) rfl (by kernel_rfl) (fun w H => ev_indexArr (ad := (⟨b17, 0, none⟩ : Addr).add 0) 43 (.tmp 5) (.tmp 134) 8 4 1 .i64 t942.1.Acct rfl (by kernel_rfl) (by kernel_rfl) (by kernel_rfl) hg1001) ?_
                obtain ⟨x1002, hx1002, h⟩ := bd_some h
                refine WQ.value (v := vb x1002) rfl (by kernel_rfl) (fun w H => ev_load 4 (.tmp 135) 0 (vb x1002) (CellsAt.elem fBool (St.boxAt H 2 rfl) 0 [c854, c855, c856, c857, c858, c859, c860, c861] [] (by kernel_rfl) _ _ hx1002) (le_self _) rfl (by kernel_rfl) (by kernel_rfl)) ?_
                obtain ⟨c1003, hc1003, h⟩ := lt_some h
                refine WQ.value (v := vb c1003) rfl (by kernel_rfl) (fun w _ => by subst hc1003; kernel_rfl) ?_
                refine WQ.value (v := vb c1003) rfl (by kernel_rfl) (fun w _ => by kernel_rfl) ?_
                refine WQ.value (v := vb c1003) rfl (by kernel_rfl) (fun w _ => by kernel_rfl) ?_
                cases c1003 with
                | false =>
                  replace h := br_f h
                  refine WQ.value (v := vp b946 0) rfl (by kernel_rfl) (fun w _ => by kernel_rfl) ?_
                  refine WQ.value (v := vi t942.1.Acct) rfl (by kernel_rfl) (fun w H => ev_loadBox H 0 rfl 3 (.tmp 140) 0 (vi t942.1.Acct) rfl (by kernel_rfl) (by kernel_rfl)) ?_
                  obtain ⟨hg1004, h⟩ := gd_some h
                  refine WQ.value (v := va (((⟨b13, 0, none⟩ : Addr).add 0).add (Int.toNat t942.1.Acct * 5))) rfl (by kernel_rfl) (fun w H => ev_indexArr (ad := (⟨b13, 0, none⟩ : Addr).add 0) 42 (.tmp 4) (.tmp 141) 8 31 5 .i64 t942.1.Acct rfl (by kernel_rfl) (by kernel_rfl) (by kernel_rfl) hg1004) ?_
                  obtain ⟨x1005, hx1005, h⟩ := bd_some h
                  refine WQ.value (v := TRank.val x1005) rfl (by kernel_rfl) (fun w H => ev_load 31 (.tmp 142) 0 (TRank.val x1005) (CellsAt.elem fTRank (St.boxAt H 3 rfl) 0 [x29, x30, x31, x32, x33, x34, x35, x36] [] (by kernel_rfl) _ _ hx1005) (le_self _) rfl (by kernel_rfl) (by kernel_rfl)) ?_
                  refine WQ.value (v := vp b946 1) rfl (by kernel_rfl) (fun w _ => by kernel_rfl) ?_
                  refine WQ.value (v := TRank.val t942.1.Rank) rfl (by kernel_rfl) (fun w H => ev_loadBox H 0 rfl 31 (.tmp 144) 1 (TRank.val t942.1.Rank) rfl (by kernel_rfl) (by kernel_rfl)) ?_
                  obtain ⟨c1006, hc1006, h⟩ := lt_some h
                  refine WQ.value (v := vb c1006) rfl (by kernel_rfl) (fun w H => by subst hc1006; exact ev_neqS (F := fTRank) 31 31 (.tmp 143) (.tmp 145) x1005 t942.1.Rank eqok_31 rfl (TRank.cs x1005).toArray (TRank.cs t942.1.Rank).toArray rfl rfl (by kernel_rfl) (by kernel_rfl) (by kernel_rfl)) ?_
                  refine WQ.value (v := vb c1006) rfl (by kernel_rfl) (fun w _ => by kernel_rfl) ?_
                  refine WQ.value (v := vb c1006) rfl (by kernel_rfl) (fun w _ => by kernel_rfl) ?_
                  cases c1006 with
                  | false =>
                    replace h := br_f h
                    refine WQ.value (v := vb c866) rfl (by kernel_rfl) (fun w _ => by kernel_rfl) ?_
                    obtain ⟨c1007, hc1007, h⟩ := lt_some h
                    refine WQ.value (v := vb c1007) rfl (by kernel_rfl) (fun w _ => by subst hc1007; kernel_rfl) ?_
                    refine WQ.value (v := vb c1007) rfl (by kernel_rfl) (fun w _ => by kernel_rfl) ?_
                    cases c1007 with
                    | false =>
                      replace h := br_f h
                      refine WQ.off rfl (by kernel_rfl) ?_
                      refine WQ.off rfl (by kernel_rfl) ?_
                      refine WQ.off rfl (by kernel_rfl) ?_
                      refine WQ.off rfl (by kernel_rfl) ?_
                      refine WQ.value (v := vb false) rfl (by kernel_rfl) (fun w _ => by kernel_rfl) ?_
                      refine WQ.value (v := vb false) rfl (by kernel_rfl) (fun w _ => by kernel_rfl) ?_
                      refine WQ.frame (a' := ⟨#[.agg #[s1, s3], vp b5 0, g862, s865, vp b13 0, vp b17 0, g41, g42, g43, g44, g45, vp b675 0, vb c866, vi x867, vp b946 0, vi t942.2, g870, g871, Z, .agg #[s1, s3], vb false, g46, g47, g48, g49, g50, g51, g52, g53, g54, g55, g56, g57, g58, g59, g60, g61, g62, g63, g64, g65, g66, g67, g68, g69, g70, g71, g72, g73, g74, g75, g76, g77, g78, g79, g80, g81, g82, g83, g84, g85, g86, g87, g88, g89, g90, g91, g92, g93, g94, g95, g96, g97, g98, g99, g100, g101, g102, g103, g104, g105, g106, g107, g108, g109, g110, g111, g112, g113, g114, g115, g116, g117, g118, g119, g120, g121, g122, g123, g124, g125, g126, g127, g128, g129, g130, .agg #[vi 0, vi 0, vu 0, vu 0, vu 0, vu 0], vi x867, vb true, g874, g875, .tuple #[TNode.val t942.1, vi t942.2], s865, .tuple #[TNode.val t942.1, vi t942.2], TNode.val t942.1, vi t942.2, vi t942.2, vi t952, vb false, vi t942.2, vi t997, vb false, vb false, vp b946 0, vi t942.1.Acct, vb false, vb false, vb false, vp b946 0, vi t942.1.Acct, vb false, vb false, vb false, vp b946 0, vi t942.1.Acct, va (((⟨b17, 0, none⟩ : Addr).add 0).add (Int.toNat t942.1.Acct * 1)), vb x1002, vb false, vb false, vb false, vp b946 0, vi t942.1.Acct, va (((⟨b13, 0, none⟩ : Addr).add 0).add (Int.toNat t942.1.Acct * 5)), TRank.val x1005, vp b946 1, TRank.val t942.1.Rank, vb false, vb false, vb false, vb c866, vb false, vb false, Z, Z, Z, Z, vb false, vb false, g923, g924, g925, g926, g927, g928, g929, g930, g931, g932, g933, g934, g935, g936, g937, Z, Z, Z, Z, Z, Z, Z, Z, Z, Z, Z, Z, Z], []⟩) (by kernel_rfl) ?_
                      refine WQ.done rfl ?_
                      refine (fun w1008 H1009 => ?_)
                      exact ⟨false, _, _, _, _, _, _, _, _, _, _, _, _, _, _, _, _, _, _, _, _, _, _, _, _, _, _, _, _, _, _, _, _, _, _, _, _, _, _, rfl, St.sel H1009 [0, 1, 2, 3, 4, 5] (by decide) rfl, h⟩
                    | true =>
                      replace h := br_t h
                      refine WQ.value (v := TNode.val x853) rfl (by kernel_rfl) (fun w H => ev_loadBox H 1 rfl 33 (.tmp 11) 0 (TNode.val x853) rfl (by kernel_rfl) (by kernel_rfl)) ?_
                      refine WQ.value (v := TNode.val t942.1) rfl (by kernel_rfl) (fun w H => ev_loadBox H 0 rfl 33 (.tmp 14) 0 (TNode.val t942.1) rfl (by kernel_rfl) (by kernel_rfl)) ?_
                      obtain ⟨t1010, ht1010, h⟩ := bd_some h
                      refine WQ.call (v := vb t1010) rfl (by kernel_rfl) (fun w => by kernel_rfl) (fun w H => Ret.mono (g_tarnref12_Below_w fuel x853 t942.1 t1010 ht1010 _) fun u w1 hu => ⟨hu.1, St.call0' H hu.2⟩) ?_
                      obtain ⟨c1011, hc1011, h⟩ := lt_some h
                      refine WQ.value (v := vb c1011) rfl (by kernel_rfl) (fun w _ => by subst hc1011; kernel_rfl) ?_
                      refine WQ.value (v := vb c1011) rfl (by kernel_rfl) (fun w _ => by kernel_rfl) ?_
                      refine WQ.value (v := vb c1011) rfl (by kernel_rfl) (fun w _ => by kernel_rfl) ?_
                      refine WQ.frame (a' := ⟨#[.agg #[s1, s3], vp b5 0, g862, s865, vp b13 0, vp b17 0, g41, g42, g43, g44, g45, vp b675 0, vb c866, vi x867, vp b946 0, vi t942.2, g870, g871, Z, .agg #[s1, s3], vb false, g46, g47, g48, g49, g50, g51, g52, g53, g54, g55, g56, g57, g58, g59, g60, g61, g62, g63, g64, g65, g66, g67, g68, g69, g70, g71, g72, g73, g74, g75, g76, g77, g78, g79, g80, g81, g82, g83, g84, g85, g86, g87, g88, g89, g90, g91, g92, g93, g94, g95, g96, g97, g98, g99, g100, g101, g102, g103, g104, g105, g106, g107, g108, g109, g110, g111, g112, g113, g114, g115, g116, g117, g118, g119, g120, g121, g122, g123, g124, g125, g126, g127, g128, g129, g130, .agg #[vi 0, vi 0, vu 0, vu 0, vu 0, vu 0], vi x867, vb true, g874, g875, .tuple #[TNode.val t942.1, vi t942.2], s865, .tuple #[TNode.val t942.1, vi t942.2], TNode.val t942.1, vi t942.2, vi t942.2, vi t952, vb false, vi t942.2, vi t997, vb false, vb false, vp b946 0, vi t942.1.Acct, vb false, vb false, vb false, vp b946 0, vi t942.1.Acct, vb false, vb false, vb false, vp b946 0, vi t942.1.Acct, va (((⟨b17, 0, none⟩ : Addr).add 0).add (Int.toNat t942.1.Acct * 1)), vb x1002, vb false, vb false, vb false, vp b946 0, vi t942.1.Acct, va (((⟨b13, 0, none⟩ : Addr).add 0).add (Int.toNat t942.1.Acct * 5)), TRank.val x1005, vp b946 1, TRank.val t942.1.Rank, vb false, vb false, vb false, vb c866, vb true, vb true, TNode.val x853, TNode.val t942.1, vb t1010, vb c1011, vb c1011, vb c1011, g923, g924, g925, g926, g927, g928, g929, g930, g931, g932, g933, g934, g935, g936, g937, Z, Z, Z, Z, Z, Z, Z, Z, Z, Z, Z, Z, Z], []⟩) (by kernel_rfl) ?_
                      refine WQ.done rfl ?_
                      refine (fun w1012 H1013 => ?_)
                      exact ⟨c1011, _, _, _, _, _, _, _, _, _, _, _, _, _, _, _, _, _, _, _, _, _, _, _, _, _, _, _, _, _, _, _, _, _, _, _, _, _, _, rfl, St.sel H1013 [0, 1, 2, 3, 4, 5] (by decide) rfl, h⟩
                  | true =>
                    replace h := br_t h
                    refine WQ.off rfl (by kernel_rfl) ?_
                    refine WQ.off rfl (by kernel_rfl) ?_
                    refine WQ.off rfl (by kernel_rfl) ?_
                    refine WQ.off rfl (by kernel_rfl) ?_
                    refine WQ.off rfl (by kernel_rfl) ?_
                    refine WQ.off rfl (by kernel_rfl) ?_
                    refine WQ.off rfl (by kernel_rfl) ?_
                    refine WQ.off rfl (by kernel_rfl) ?_
                    refine WQ.value (v := vb true) rfl (by kernel_rfl) (fun w _ => by kernel_rfl) ?_
                    refine WQ.frame (a' := ⟨#[.agg #[s1, s3], vp b5 0, g862, s865, vp b13 0, vp b17 0, g41, g42, g43, g44, g45, vp b675 0, vb c866, vi x867, vp b946 0, vi t942.2, g870, g871, Z, .agg #[s1, s3], vb false, g46, g47, g48, g49, g50, g51, g52, g53, g54, g55, g56, g57, g58, g59, g60, g61, g62, g63, g64, g65, g66, g67, g68, g69, g70, g71, g72, g73, g74, g75, g76, g77, g78, g79, g80, g81, g82, g83, g84, g85, g86, g87, g88, g89, g90, g91, g92, g93, g94, g95, g96, g97, g98, g99, g100, g101, g102, g103, g104, g105, g106, g107, g108, g109, g110, g111, g112, g113, g114, g115, g116, g117, g118, g119, g120, g121, g122, g123, g124, g125, g126, g127, g128, g129, g130, .agg #[vi 0, vi 0, vu 0, vu 0, vu 0, vu 0], vi x867, vb true, g874, g875, .tuple #[TNode.val t942.1, vi t942.2], s865, .tuple #[TNode.val t942.1, vi t942.2], TNode.val t942.1, vi t942.2, vi t942.2, vi t952, vb false, vi t942.2, vi t997, vb false, vb false, vp b946 0, vi t942.1.Acct, vb false, vb false, vb false, vp b946 0, vi t942.1.Acct, vb false, vb false, vb false, vp b946 0, vi t942.1.Acct, va (((⟨b17, 0, none⟩ : Addr).add 0).add (Int.toNat t942.1.Acct * 1)), vb x1002, vb false, vb false, vb false, vp b946 0, vi t942.1.Acct, va (((⟨b13, 0, none⟩ : Addr).add 0).add (Int.toNat t942.1.Acct * 5)), TRank.val x1005, vp b946 1, TRank.val t942.1.Rank, vb true, vb true, vb true, Z, Z, Z, Z, Z, Z, Z, Z, vb true, g923, g924, g925, g926, g927, g928, g929, g930, g931, g932, g933, g934, g935, g936, g937, Z, Z, Z, Z, Z, Z, Z, Z, Z, Z, Z, Z, Z], []⟩) (by kernel_rfl) ?_
                    refine WQ.done rfl ?_
                    refine (fun w1014 H1015 => ?_)
                    exact ⟨true, _, _, _, _, _, _, _, _, _, _, _, _, _, _, _, _, _, _, _, _, _, _, _, _, _, _, _, _, _, _, _, _, _, _, _, _, _, _, rfl, St.sel H1015 [0, 1, 2, 3, 4, 5] (by decide) rfl, h⟩
                | true =>
                  replace h := br_t h
                  refine WQ.off rfl (by kernel_rfl) ?_
                  refine WQ.off rfl (by kernel_rfl) ?_
                  refine WQ.off rfl (by kernel_rfl) ?_
                  refine WQ.off rfl (by kernel_rfl) ?_
                  refine WQ.off rfl (by kernel_rfl) ?_
                  refine WQ.off rfl (by kernel_rfl) ?_
                  refine WQ.off rfl (by kernel_rfl) ?_
                  refine WQ.value (v := vb true) rfl (by kernel_rfl) (fun w _ => by kernel_rfl) ?_
                  refine WQ.value (v := vb true) rfl (by kernel_rfl) (fun w _ => by kernel_rfl) ?_
                  refine WQ.off rfl (by kernel_rfl) ?_
                  refine WQ.off rfl (by kernel_rfl) ?_
                  refine WQ.off rfl (by kernel_rfl) ?_
                  refine WQ.off rfl (by kernel_rfl) ?_
                  refine WQ.off rfl (by kernel_rfl) ?_
                  refine WQ.off rfl (by kernel_rfl) ?_
                  refine WQ.off rfl (by kernel_rfl) ?_
                  refine WQ.off rfl (by kernel_rfl) ?_
                  refine WQ.value (v := vb true) rfl (by kernel_rfl) (fun w _ => by kernel_rfl) ?_
                  refine WQ.frame (a' := ⟨#[.agg #[s1, s3], vp b5 0, g862, s865, vp b13 0, vp b17 0, g41, g42, g43, g44, g45, vp b675 0, vb c866, vi x867, vp b946 0, vi t942.2, g870, g871, Z, .agg #[s1, s3], vb false, g46, g47, g48, g49, g50, g51, g52, g53, g54, g55, g56, g57, g58, g59, g60, g61, g62, g63, g64, g65, g66, g67, g68, g69, g70, g71, g72, g73, g74, g75, g76, g77, g78, g79, g80, g81, g82, g83, g84, g85, g86, g87, g88, g89, g90, g91, g92, g93, g94, g95, g96, g97, g98, g99, g100, g101, g102, g103, g104, g105, g106, g107, g108, g109, g110, g111, g112, g113, g114, g115, g116, g117, g118, g119, g120, g121, g122, g123, g124, g125, g126, g127, g128, g129, g130, .agg #[vi 0, vi 0, vu 0, vu 0, vu 0, vu 0], vi x867, vb true, g874, g875, .tuple #[TNode.val t942.1, vi t942.2], s865, .tuple #[TNode.val t942.1, vi t942.2], TNode.val t942.1, vi t942.2, vi t942.2, vi t952, vb false, vi t942.2, vi t997, vb false, vb false, vp b946 0, vi t942.1.Acct, vb false, vb false, vb false, vp b946 0, vi t942.1.Acct, vb false, vb false, vb false, vp b946 0, vi t942.1.Acct, va (((⟨b17, 0, none⟩ : Addr).add 0).add (Int.toNat t942.1.Acct * 1)), vb x1002, vb true, vb true, vb true, Z, Z, Z, Z, Z, Z, Z, vb true, vb true, Z, Z, Z, Z, Z, Z, Z, Z, vb true, g923, g924, g925, g926, g927, g928, g929, g930, g931, g932, g933, g934, g935, g936, g937, Z, Z, Z, Z, Z, Z, Z, Z, Z, Z, Z, Z, Z], []⟩) (by kernel_rfl) ?_
                  refine WQ.done rfl ?_
                  refine (fun w1016 H1017 => ?_)
                  exact ⟨true, _, _, _, _, _, _, _, _, _, _, _, _, _, _, _, _, _, _, _, _, _, _, _, _, _, _, _, _, _, _, _, _, _, _, _, _, _, _, rfl, St.sel H1017 [0, 1, 2, 3, 4, 5] (by decide) rfl, h⟩
              | true =>
                replace h := br_t h
                refine WQ.off rfl (by kernel_rfl) ?_
                refine WQ.off rfl (by kernel_rfl) ?_
                refine WQ.off rfl (by kernel_rfl) ?_
                refine WQ.off rfl (by kernel_rfl) ?_
                refine WQ.off rfl (by kernel_rfl) ?_
                refine WQ.value (v := vb true) rfl (by kernel_rfl) (fun w _ => by kernel_rfl) ?_
                refine WQ.value (v := vb true) rfl (by kernel_rfl) (fun w _ => by kernel_rfl) ?_
                refine WQ.off rfl (by kernel_rfl) ?_
                refine WQ.off rfl (by kernel_rfl) ?_
                refine WQ.off rfl (by kernel_rfl) ?_
                refine WQ.off rfl (by kernel_rfl) ?_
                refine WQ.off rfl (by kernel_rfl) ?_
                refine WQ.off rfl (by kernel_rfl) ?_
                refine WQ.off rfl (by kernel_rfl) ?_
                refine WQ.value (v := vb true) rfl (by kernel_rfl) (fun w _ => by kernel_rfl) ?_
                refine WQ.value (v := vb true) rfl (by kernel_rfl) (fun w _ => by kernel_rfl) ?_
                refine WQ.off rfl (by kernel_rfl) ?_
                refine WQ.off rfl (by kernel_rfl) ?_
                refine WQ.off rfl (by kernel_rfl) ?_
                refine WQ.off rfl (by kernel_rfl) ?_
                refine WQ.off rfl (by kernel_rfl) ?_
                refine WQ.off rfl (by kernel_rfl) ?_
                refine WQ.off rfl (by kernel_rfl) ?_
                refine WQ.off rfl (by kernel_rfl) ?_
                refine WQ.value (v := vb true) rfl (by kernel_rfl) (fun w _ => by kernel_rfl) ?_
                refine WQ.frame (a' := ⟨#[.agg #[s1, s3], vp b5 0, g862, s865, vp b13 0, vp b17 0, g41, g42, g43, g44, g45, vp b675 0, vb c866, vi x867, vp b946 0, vi t942.2, g870, g871, Z, .agg #[s1, s3], vb false, g46, g47, g48, g49, g50, g51, g52, g53, g54, g55, g56, g57, g58, g59, g60, g61, g62, g63, g64, g65, g66, g67, g68, g69, g70, g71, g72, g73, g74, g75, g76, g77, g78, g79, g80, g81, g82, g83, g84, g85, g86, g87, g88, g89, g90, g91, g92, g93, g94, g95, g96, g97, g98, g99, g100, g101, g102, g103, g104, g105, g106, g107, g108, g109, g110, g111, g112, g113, g114, g115, g116, g117, g118, g119, g120, g121, g122, g123, g124, g125, g126, g127, g128, g129, g130, .agg #[vi 0, vi 0, vu 0, vu 0, vu 0, vu 0], vi x867, vb true, g874, g875, .tuple #[TNode.val t942.1, vi t942.2], s865, .tuple #[TNode.val t942.1, vi t942.2], TNode.val t942.1, vi t942.2, vi t942.2, vi t952, vb false, vi t942.2, vi t997, vb false, vb false, vp b946 0, vi t942.1.Acct, vb false, vb false, vb false, vp b946 0, vi t942.1.Acct, vb true, vb true, vb true, Z, Z, Z, Z, Z, vb true, vb true, Z, Z, Z, Z, Z, Z, Z, vb true, vb true, Z, Z, Z, Z, Z, Z, Z, Z, vb true, g923, g924, g925, g926, g927, g928, g929, g930, g931, g932, g933, g934, g935, g936, g937, Z, Z, Z, Z, Z, Z, Z, Z, Z, Z, Z, Z, Z], []⟩) (by kernel_rfl) ?_
                refine WQ.done rfl ?_
                refine (fun w1018 H1019 => ?_)
                exact ⟨true, _, _, _, _, _, _, _, _, _, _, _, _, _, _, _, _, _, _, _, _, _, _, _, _, _, _, _, _, _, _, _, _, _, _, _, _, _, _, rfl, St.sel H1019 [0, 1, 2, 3, 4, 5] (by decide) rfl, h⟩
            | true =>
              replace h := br_t h
              refine WQ.off rfl (by kernel_rfl) ?_
              refine WQ.off rfl (by kernel_rfl) ?_
              refine WQ.off rfl (by kernel_rfl) ?_
              refine WQ.value (v := vb true) rfl (by kernel_rfl) (fun w _ => by kernel_rfl) ?_
              refine WQ.value (v := vb true) rfl (by kernel_rfl) (fun w _ => by kernel_rfl) ?_
              refine WQ.off rfl (by kernel_rfl) ?_
              refine WQ.off rfl (by kernel_rfl) ?_
              refine WQ.off rfl (by kernel_rfl) ?_
              refine WQ.off rfl (by kernel_rfl) ?_
              refine WQ.off rfl (by kernel_rfl) ?_
              refine WQ.value (v := vb true) rfl (by kernel_rfl) (fun w _ => by kernel_rfl) ?_
              refine WQ.value (v := vb true) rfl (by kernel_rfl) (fun w _ => by kernel_rfl) ?_
              refine WQ.off rfl (by kernel_rfl) ?_
              refine WQ.off rfl (by kernel_rfl) ?_
              refine WQ.off rfl (by kernel_rfl) ?_
              refine WQ.off rfl (by kernel_rfl) ?_
              refine WQ.off rfl (by kernel_rfl) ?_
              refine WQ.off rfl (by kernel_rfl) ?_
              refine WQ.off rfl (by kernel_rfl) ?_
              refine WQ.value (v := vb true) rfl (by kernel_rfl) (fun w _ => by kernel_rfl) ?_
              refine WQ.value (v := vb true) rfl (by kernel_rfl) (fun w _ => by kernel_rfl) ?_
              refine WQ.off rfl (by kernel_rfl) ?_
              refine WQ.off rfl (by kernel_rfl) ?_
              refine WQ.off rfl (by kernel_rfl) ?_
              refine WQ.off rfl (by kernel_rfl) ?_
              refine WQ.off rfl (by kernel_rfl) ?_
              refine WQ.off rfl (by kernel_rfl) ?_
              refine WQ.off rfl (by kernel_rfl) ?_
              refine WQ.off rfl (by kernel_rfl) ?_
              refine WQ.value (v := vb true) rfl (by kernel_rfl) (fun w _ => by kernel_rfl) ?_
              refine WQ.frame (a' := ⟨#[.agg #[s1, s3], vp b5 0, g862, s865, vp b13 0, vp b17 0, g41, g42, g43, g44, g45, vp b675 0, vb c866, vi x867, vp b946 0, vi t942.2, g870, g871, Z, .agg #[s1, s3], vb false, g46, g47, g48, g49, g50, g51, g52, g53, g54, g55, g56, g57, g58, g59, g60, g61, g62, g63, g64, g65, g66, g67, g68, g69, g70, g71, g72, g73, g74, g75, g76, g77, g78, g79, g80, g81, g82, g83, g84, g85, g86, g87, g88, g89, g90, g91, g92, g93, g94, g95, g96, g97, g98, g99, g100, g101, g102, g103, g104, g105, g106, g107, g108, g109, g110, g111, g112, g113, g114, g115, g116, g117, g118, g119, g120, g121, g122, g123, g124, g125, g126, g127, g128, g129, g130, .agg #[vi 0, vi 0, vu 0, vu 0, vu 0, vu 0], vi x867, vb true, g874, g875, .tuple #[TNode.val t942.1, vi t942.2], s865, .tuple #[TNode.val t942.1, vi t942.2], TNode.val t942.1, vi t942.2, vi t942.2, vi t952, vb false, vi t942.2, vi t997, vb false, vb false, vp b946 0, vi t942.1.Acct, vb true, vb true, vb true, Z, Z, Z, vb true, vb true, Z, Z, Z, Z, Z, vb true, vb true, Z, Z, Z, Z, Z, Z, Z, vb true, vb true, Z, Z, Z, Z, Z, Z, Z, Z, vb true, g923, g924, g925, g926, g927, g928, g929, g930, g931, g932, g933, g934, g935, g936, g937, Z, Z, Z, Z, Z, Z, Z, Z, Z, Z, Z, Z, Z], []⟩) (by kernel_rfl) ?_
              refine WQ.done rfl ?_
              refine (fun w1020 H1021 => ?_)
              exact ⟨true, _, _, _, _, _, _, _, _, _, _, _, _, _, _, _, _, _, _, _, _, _, _, _, _, _, _, _, _, _, _, _, _, _, _, _, _, _, _, rfl, St.sel H1021 [0, 1, 2, 3, 4, 5] (by decide) rfl, h⟩
          | true =>
            replace h := br_t h
            refine WQ.off rfl (by kernel_rfl) ?_
            refine WQ.off rfl (by kernel_rfl) ?_
            refine WQ.off rfl (by kernel_rfl) ?_
            refine WQ.value (v := vb true) rfl (by kernel_rfl) (fun w _ => by kernel_rfl) ?_
            refine WQ.value (v := vb true) rfl (by kernel_rfl) (fun w _ => by kernel_rfl) ?_
            refine WQ.off rfl (by kernel_rfl) ?_
            refine WQ.off rfl (by kernel_rfl) ?_
            refine WQ.off rfl (by kernel_rfl) ?_
            refine WQ.value (v := vb true) rfl (by kernel_rfl) (fun w _ => by kernel_rfl) ?_
            refine WQ.value (v := vb true) rfl (by kernel_rfl) (fun w _ => by kernel_rfl) ?_
            refine WQ.off rfl (by kernel_rfl) ?_
            refine WQ.off rfl (by kernel_rfl) ?_
            refine WQ.off rfl (by kernel_rfl) ?_
            refine WQ.off rfl (by kernel_rfl) ?_
            refine WQ.off rfl (by kernel_rfl) ?_
            refine WQ.value (v := vb true) rfl (by kernel_rfl) (fun w _ => by kernel_rfl) ?_
            refine WQ.value (v := vb true) rfl (by kernel_rfl) (fun w _ => by kernel_rfl) ?_
            refine WQ.off rfl (by kernel_rfl) ?_
            refine WQ.off rfl (by kernel_rfl) ?_
            refine WQ.off rfl (by kernel_rfl) ?_
            refine WQ.off rfl (by kernel_rfl) ?_
            refine WQ.off rfl (by kernel_rfl) ?_
            refine WQ.off rfl (by kernel_rfl) ?_
            refine WQ.off rfl (by kernel_rfl) ?_
            refine WQ.value (v := vb true) rfl (by kernel_rfl) (fun w _ => by kernel_rfl) ?_
            refine WQ.value (v := vb true) rfl (by kernel_rfl) (fun w _ => by kernel_rfl) ?_
            refine WQ.off rfl (by kernel_rfl) ?_
            refine WQ.off rfl (by kernel_rfl) ?_
            refine WQ.off rfl (by kernel_rfl) ?_
            refine WQ.off rfl (by kernel_rfl) ?_
            refine WQ.off rfl (by kernel_rfl) ?_
            refine WQ.off rfl (by kernel_rfl) ?_
            refine WQ.off rfl (by kernel_rfl) ?_
            refine WQ.off rfl (by kernel_rfl) ?_
            refine WQ.value (v := vb true) rfl (by kernel_rfl) (fun w _ => by kernel_rfl) ?_
            refine WQ.frame (a' := ⟨#[.agg #[s1, s3], vp b5 0, g862, s865, vp b13 0, vp b17 0, g41, g42, g43, g44, g45, vp b675 0, vb c866, vi x867, vp b946 0, vi t942.2, g870, g871, Z, .agg #[s1, s3], vb false, g46, g47, g48, g49, g50, g51, g52, g53, g54, g55, g56, g57, g58, g59, g60, g61, g62, g63, g64, g65, g66, g67, g68, g69, g70, g71, g72, g73, g74, g75, g76, g77, g78, g79, g80, g81, g82, g83, g84, g85, g86, g87, g88, g89, g90, g91, g92, g93, g94, g95, g96, g97, g98, g99, g100, g101, g102, g103, g104, g105, g106, g107, g108, g109, g110, g111, g112, g113, g114, g115, g116, g117, g118, g119, g120, g121, g122, g123, g124, g125, g126, g127, g128, g129, g130, .agg #[vi 0, vi 0, vu 0, vu 0, vu 0, vu 0], vi x867, vb true, g874, g875, .tuple #[TNode.val t942.1, vi t942.2], s865, .tuple #[TNode.val t942.1, vi t942.2], TNode.val t942.1, vi t942.2, vi t942.2, vi t952, vb false, vi t942.2, vi t997, vb true, vb true, Z, Z, Z, vb true, vb true, Z, Z, Z, vb true, vb true, Z, Z, Z, Z, Z, vb true, vb true, Z, Z, Z, Z, Z, Z, Z, vb true, vb true, Z, Z, Z, Z, Z, Z, Z, Z, vb true, g923, g924, g925, g926, g927, g928, g929, g930, g931, g932, g933, g934, g935, g936, g937, Z, Z, Z, Z, Z, Z, Z, Z, Z, Z, Z, Z, Z], []⟩) (by kernel_rfl) ?_
            refine WQ.done rfl ?_
            refine (fun w1022 H1023 => ?_)
            exact ⟨true, _, _, _, _, _, _, _, _, _, _, _, _, _, _, _, _, _, _, _, _, _, _, _, _, _, _, _, _, _, _, _, _, _, _, _, _, _, _, rfl, St.sel H1023 [0, 1, 2, 3, 4, 5] (by decide) rfl, h⟩
        · intro a w hq
          refine Exists.elim hq fun c995 hq => Exists.elim hq fun g957 hq => Exists.elim hq fun g958 hq => Exists.elim hq fun g959 hq => Exists.elim hq fun g960 hq => Exists.elim hq fun g961 hq => Exists.elim hq fun g962 hq => Exists.elim hq fun g963 hq => Exists.elim hq fun g964 hq => Exists.elim hq fun g965 hq => Exists.elim hq fun g966 hq => Exists.elim hq fun g967 hq => Exists.elim hq fun g968 hq => Exists.elim hq fun g969 hq => Exists.elim hq fun g970 hq => Exists.elim hq fun g971 hq => Exists.elim hq fun g972 hq => Exists.elim hq fun g973 hq => Exists.elim hq fun g974 hq => Exists.elim hq fun g975 hq => Exists.elim hq fun g976 hq => Exists.elim hq fun g977 hq => Exists.elim hq fun g978 hq => Exists.elim hq fun g979 hq => Exists.elim hq fun g980 hq => Exists.elim hq fun g981 hq => Exists.elim hq fun g982 hq => Exists.elim hq fun g983 hq => Exists.elim hq fun g984 hq => Exists.elim hq fun g985 hq => Exists.elim hq fun g986 hq => Exists.elim hq fun g987 hq => Exists.elim hq fun g988 hq => Exists.elim hq fun g989 hq => Exists.elim hq fun g990 hq => Exists.elim hq fun g991 hq => Exists.elim hq fun g992 hq => Exists.elim hq fun g993 hq => Exists.elim hq fun g994 hq => ?_
          obtain ⟨rfl, H, h⟩ := hq
          subst hK996
          obtain ⟨w1024, rfl⟩ : ∃ x, x = w := ⟨_, rfl⟩
          have H1025 := H; clear H
          have sf1026 := Own.isSl (St.get H1025 5 rfl)
          refine then_n ?_
          cases c995 with
          | false =>
            replace h := br_f h
            refine WP.condF (by kernel_rfl) ?_
            refine WP.skip ?_
            refine then_n ?_
            refine WP.seq ?_
            refine WP.region ?_
            refine WPI.run 2 ⟨#[.agg #[s1, s3], vp b5 0, g862, s865, vp b13 0, vp b17 0, g41, g42, g43, g44, g45, vp b675 0, vb c866, vi x867, vp b946 0, vi t942.2, g870, g871, Z, .agg #[s1, s3], vb false, g46, g47, g48, g49, g50, g51, g52, g53, g54, g55, g56, g57, g58, g59, g60, g61, g62, g63, g64, g65, g66, g67, g68, g69, g70, g71, g72, g73, g74, g75, g76, g77, g78, g79, g80, g81, g82, g83, g84, g85, g86, g87, g88, g89, g90, g91, g92, g93, g94, g95, g96, g97, g98, g99, g100, g101, g102, g103, g104, g105, g106, g107, g108, g109, g110, g111, g112, g113, g114, g115, g116, g117, g118, g119, g120, g121, g122, g123, g124, g125, g126, g127, g128, g129, g130, .agg #[vi 0, vi 0, vu 0, vu 0, vu 0, vu 0], vi x867, vb true, g874, g875, .tuple #[TNode.val t942.1, vi t942.2], s865, .tuple #[TNode.val t942.1, vi t942.2], TNode.val t942.1, vi t942.2, vi t942.2, vi t952, vb false, g957, g958, g959, g960, g961, g962, g963, g964, g965, g966, g967, g968, g969, g970, g971, g972, g973, g974, g975, g976, g977, g978, g979, g980, g981, g982, g983, g984, g985, g986, g987, g988, g989, g990, g991, g992, g993, g994, vb false, g923, s865, vp b946 0, g926, g927, g928, g929, g930, g931, g932, g933, g934, g935, g936, g937, Z, Z, Z, Z, Z, Z, Z, Z, Z, Z, Z, Z, Z], []⟩ w1024 (fun K => by kernel_rfl) ?_
            refine WPI.value (v := vi t942.1.Acct) rfl (by kernel_rfl) (ev_loadBox H1025 0 rfl 3 (.tmp 160) 0 (vi t942.1.Acct) rfl (by kernel_rfl) (by kernel_rfl)) ?_
            obtain ⟨t1027, ht1027, h⟩ := bd_some h
            refine WPI.run 0 ⟨#[.agg #[s1, s3], vp b5 0, g862, s865, vp b13 0, vp b17 0, g41, g42, g43, g44, g45, vp b675 0, vb c866, vi x867, vp b946 0, vi t942.2, g870, g871, Z, .agg #[s1, s3], vb false, g46, g47, g48, g49, g50, g51, g52, g53, g54, g55, g56, g57, g58, g59, g60, g61, g62, g63, g64, g65, g66, g67, g68, g69, g70, g71, g72, g73, g74, g75, g76, g77, g78, g79, g80, g81, g82, g83, g84, g85, g86, g87, g88, g89, g90, g91, g92, g93, g94, g95, g96, g97, g98, g99, g100, g101, g102, g103, g104, g105, g106, g107, g108, g109, g110, g111, g112, g113, g114, g115, g116, g117, g118, g119, g120, g121, g122, g123, g124, g125, g126, g127, g128, g129, g130, .agg #[vi 0, vi 0, vu 0, vu 0, vu 0, vu 0], vi x867, vb true, g874, g875, .tuple #[TNode.val t942.1, vi t942.2], s865, .tuple #[TNode.val t942.1, vi t942.2], TNode.val t942.1, vi t942.2, vi t942.2, vi t952, vb false, g957, g958, g959, g960, g961, g962, g963, g964, g965, g966, g967, g968, g969, g970, g971, g972, g973, g974, g975, g976, g977, g978, g979, g980, g981, g982, g983, g984, g985, g986, g987, g988, g989, g990, g991, g992, g993, g994, vb false, g923, s865, vp b946 0, vi t942.1.Acct, g927, g928, g929, g930, g931, g932, g933, g934, g935, g936, g937, Z, Z, Z, Z, Z, Z, Z, Z, Z, Z, Z, Z, Z], []⟩ w1024 (fun K => by kernel_rfl) ?_
            refine WPI.op rfl (Op1.call (by kernel_rfl) (by kernel_rfl) (g_heap_Drop_w fuel s865 l864 t942.1.Acct t1027 ht1027 _ (St.rd H1025 5 rfl)) ?_)
            rintro _ w1031 ⟨s1028, rfl, Hc1032⟩
            have H1033 := St.call0 H1025 Hc1032
            clear H1025 Hc1032
            have sf1030 := Own.isSl (St.get H1033 0 rfl)
            refine WPI.run 5 ⟨#[.agg #[s1, s3], vp b5 0, g862, s865, vp b13 0, vp b17 0, g41, g42, g43, g44, g45, vp b675 0, vb c866, vi x867, vp b946 0, vi t942.2, s1028, vi t1027.2, Z, .agg #[s1, s3], vb false, g46, g47, g48, g49, g50, g51, g52, g53, g54, g55, g56, g57, g58, g59, g60, g61, g62, g63, g64, g65, g66, g67, g68, g69, g70, g71, g72, g73, g74, g75, g76, g77, g78, g79, g80, g81, g82, g83, g84, g85, g86, g87, g88, g89, g90, g91, g92, g93, g94, g95, g96, g97, g98, g99, g100, g101, g102, g103, g104, g105, g106, g107, g108, g109, g110, g111, g112, g113, g114, g115, g116, g117, g118, g119, g120, g121, g122, g123, g124, g125, g126, g127, g128, g129, g130, .agg #[vi 0, vi 0, vu 0, vu 0, vu 0, vu 0], vi x867, vb true, g874, g875, .tuple #[TNode.val t942.1, vi t942.2], s865, .tuple #[TNode.val t942.1, vi t942.2], TNode.val t942.1, vi t942.2, vi t942.2, vi t952, vb false, g957, g958, g959, g960, g961, g962, g963, g964, g965, g966, g967, g968, g969, g970, g971, g972, g973, g974, g975, g976, g977, g978, g979, g980, g981, g982, g983, g984, g985, g986, g987, g988, g989, g990, g991, g992, g993, g994, vb false, .tuple #[s1028, vi t1027.2], s865, vp b946 0, vi t942.1.Acct, .tuple #[s1028, vi t1027.2], s1028, vi t1027.2, g930, g931, g932, g933, g934, g935, g936, g937, Z, Z, Z, Z, Z, Z, Z, Z, Z, Z, Z, Z, Z], []⟩ w1031 (fun K => by kernel_rfl) ?_
            refine WPI.done rfl ?_
            refine then_n ?_
            refine WP.seq ?_
            refine WP.seq ?_
            refine WP.region ?_
            obtain ⟨t1034, ht1034, h⟩ := bd_some h
            refine WPI.run 1 ⟨#[.agg #[s1, s3], vp b5 0, g862, s865, vp b13 0, vp b17 0, g41, g42, g43, g44, g45, vp b675 0, vb c866, vi x867, vp b946 0, vi t942.2, s1028, vi t1027.2, Z, .agg #[s1, s3], vb false, g46, g47, g48, g49, g50, g51, g52, g53, g54, g55, g56, g57, g58, g59, g60, g61, g62, g63, g64, g65, g66, g67, g68, g69, g70, g71, g72, g73, g74, g75, g76, g77, g78, g79, g80, g81, g82, g83, g84, g85, g86, g87, g88, g89, g90, g91, g92, g93, g94, g95, g96, g97, g98, g99, g100, g101, g102, g103, g104, g105, g106, g107, g108, g109, g110, g111, g112, g113, g114, g115, g116, g117, g118, g119, g120, g121, g122, g123, g124, g125, g126, g127, g128, g129, g130, .agg #[vi 0, vi 0, vu 0, vu 0, vu 0, vu 0], vi x867, vb true, g874, g875, .tuple #[TNode.val t942.1, vi t942.2], s865, .tuple #[TNode.val t942.1, vi t942.2], TNode.val t942.1, vi t942.2, vi t942.2, vi t952, vb false, g957, g958, g959, g960, g961, g962, g963, g964, g965, g966, g967, g968, g969, g970, g971, g972, g973, g974, g975, g976, g977, g978, g979, g980, g981, g982, g983, g984, g985, g986, g987, g988, g989, g990, g991, g992, g993, g994, vb false, .tuple #[s1028, vi t1027.2], s865, vp b946 0, vi t942.1.Acct, .tuple #[s1028, vi t1027.2], s1028, vi t1027.2, vi t1027.2, g931, g932, g933, g934, g935, g936, g937, Z, Z, Z, Z, Z, Z, Z, Z, Z, Z, Z, Z, Z], []⟩ w1031 (fun K => by kernel_rfl) ?_
            refine WPI.op rfl (Op1.call (by kernel_rfl) (by kernel_rfl) (g_tarnlaw13_num_w fuel t1027.2 t1034 ht1034 _) ?_)
            rintro _ w1035 ⟨rfl, Hc1036⟩
            have H1037 := St.call0' H1033 Hc1036
            clear H1033 Hc1036
            obtain ⟨c1038, hc1038, h⟩ := lt_some h
            refine WPI.run 1 ⟨#[.agg #[s1, s3], vp b5 0, g862, s865, vp b13 0, vp b17 0, g41, g42, g43, g44, g45, vp b675 0, vb c866, vi x867, vp b946 0, vi t942.2, s1028, vi t1027.2, Z, .agg #[s1, s3], vb false, g46, g47, g48, g49, g50, g51, g52, g53, g54, g55, g56, g57, g58, g59, g60, g61, g62, g63, g64, g65, g66, g67, g68, g69, g70, g71, g72, g73, g74, g75, g76, g77, g78, g79, g80, g81, g82, g83, g84, g85, g86, g87, g88, g89, g90, g91, g92, g93, g94, g95, g96, g97, g98, g99, g100, g101, g102, g103, g104, g105, g106, g107, g108, g109, g110, g111, g112, g113, g114, g115, g116, g117, g118, g119, g120, g121, g122, g123, g124, g125, g126, g127, g128, g129, g130, .agg #[vi 0, vi 0, vu 0, vu 0, vu 0, vu 0], vi x867, vb true, g874, g875, .tuple #[TNode.val t942.1, vi t942.2], s865, .tuple #[TNode.val t942.1, vi t942.2], TNode.val t942.1, vi t942.2, vi t942.2, vi t952, vb false, g957, g958, g959, g960, g961, g962, g963, g964, g965, g966, g967, g968, g969, g970, g971, g972, g973, g974, g975, g976, g977, g978, g979, g980, g981, g982, g983, g984, g985, g986, g987, g988, g989, g990, g991, g992, g993, g994, vb false, .tuple #[s1028, vi t1027.2], s865, vp b946 0, vi t942.1.Acct, .tuple #[s1028, vi t1027.2], s1028, vi t1027.2, vi t1027.2, vi t1034, vb c1038, g933, g934, g935, g936, g937, Z, Z, Z, Z, Z, Z, Z, Z, Z, Z, Z, Z, Z], []⟩ w1035 (fun K => by subst hc1038; kernel_rfl) ?_
            refine WPI.done rfl ?_
            refine then_n ?_
            cases c1038 with
            | false =>
              replace h := br_f h
              refine WP.condF (by kernel_rfl) ?_
              refine WP.skip ?_
              refine then_n ?_
              obtain ⟨K1053, hK1053, h⟩ := jn_some h
              refine WP.draw (by kernel_rfl) (by kernel_rfl) (fun a w => ∃ (x1039 : TNode) (c1040 : Bool) (c1041 : Bool) (c1042 : Bool) (c1043 : Bool) (c1044 : Bool) (c1045 : Bool) (c1046 : Bool) (c1047 : Bool) (g1048 : Value) (g1049 : Value) (g1050 : Value) (g1051 : Value) (g1052 : Value), a = ⟨#[.agg #[s1, s3], vp b5 0, g862, s1028, vp b13 0, vp b17 0, g41, g42, g43, g44, g45, vp b675 0, vb false, vi x867, vp b946 0, vi t942.2, s1028, vi t1027.2, Z, .agg #[s1, s3], vb false, g46, g47, g48, g49, g50, g51, g52, g53, g54, g55, g56, g57, g58, g59, g60, g61, g62, g63, g64, g65, g66, g67, g68, g69, g70, g71, g72, g73, g74, g75, g76, g77, g78, g79, g80, g81, g82, g83, g84, g85, g86, g87, g88, g89, g90, g91, g92, g93, g94, g95, g96, g97, g98, g99, g100, g101, g102, g103, g104, g105, g106, g107, g108, g109, g110, g111, g112, g113, g114, g115, g116, g117, g118, g119, g120, g121, g122, g123, g124, g125, g126, g127, g128, g129, g130, .agg #[vi 0, vi 0, vu 0, vu 0, vu 0, vu 0], vi x867, vb true, g874, g875, .tuple #[TNode.val t942.1, vi t942.2], s865, .tuple #[TNode.val t942.1, vi t942.2], TNode.val t942.1, vi t942.2, vi t942.2, vi t952, vb false, g957, g958, g959, g960, g961, g962, g963, g964, g965, g966, g967, g968, g969, g970, g971, g972, g973, g974, g975, g976, g977, g978, g979, g980, g981, g982, g983, g984, g985, g986, g987, g988, g989, g990, g991, g992, g993, g994, vb false, .tuple #[s1028, vi t1027.2], s865, vp b946 0, vi t942.1.Acct, .tuple #[s1028, vi t1027.2], s1028, vi t1027.2, vi t1027.2, vi t1034, vb false, g1048, g1049, g1050, g1051, g1052, Z, Z, Z, Z, Z, Z, Z, Z, Z, Z, Z, Z, Z], []⟩ ∧ St no w0 w [Box b946 (TNode.cs t942.1).toArray 33, Box b675 (TNode.cs x1039).toArray 33, Box b17 #[vb c1040, vb c1041, vb c1042, vb c1043, vb c1044, vb c1045, vb c1046, vb c1047] 43, Box b13 #[vi x29.Dist, vu x29.Tip.e0, vu x29.Tip.e1, vu x29.Tip.e2, vu x29.Tip.e3, vi x30.Dist, vu x30.Tip.e0, vu x30.Tip.e1, vu x30.Tip.e2, vu x30.Tip.e3, vi x31.Dist, vu x31.Tip.e0, vu x31.Tip.e1, vu x31.Tip.e2, vu x31.Tip.e3, vi x32.Dist, vu x32.Tip.e0, vu x32.Tip.e1, vu x32.Tip.e2, vu x32.Tip.e3, vi x33.Dist, vu x33.Tip.e0, vu x33.Tip.e1, vu x33.Tip.e2, vu x33.Tip.e3, vi x34.Dist, vu x34.Tip.e0, vu x34.Tip.e1, vu x34.Tip.e2, vu x34.Tip.e3, vi x35.Dist, vu x35.Tip.e0, vu x35.Tip.e1, vu x35.Tip.e2, vu x35.Tip.e3, vi x36.Dist, vu x36.Tip.e0, vu x36.Tip.e1, vu x36.Tip.e2, vu x36.Tip.e3] 42, Box b5 #[s1, s3] 25, Own fTNode 33 s1028 t1027.1, Own fTNode 33 s865 l864] ∧ K1053 x1039 c1040 c1041 c1042 c1043 c1044 c1045 c1046 c1047 = some r) 9 #[false, false, false, false, false, false, false, false, false] (by kernel_rfl) (by kernel_rfl) ?_ ?_
              · skip
                have H1054 := St.drew H1037
                obtain ⟨hg1055, h⟩ := gd_some h
                obtain ⟨y1056, y1057, y1058, y1059, y1060, y1061, y1062, y1063, hy1064, h⟩ := ls8_some h
                refine WA.take 0 (v := vp b946 0) rfl (by kernel_rfl) (by kernel_rfl) (fun w => by kernel_rfl) (fun w => by kernel_rfl) (l' := #[true, false, false, false, false, false, false, false, false]) (by kernel_rfl) ?_
                refine WA.take 2 (v := s1028) rfl (by kernel_rfl) (by kernel_rfl) (fun w => by kernel_rfl) (fun w => by kernel_rfl) (l' := #[true, false, true, false, false, false, false, false, false]) (by kernel_rfl) ?_
                refine WA.take 4 (v := s1028) rfl (by kernel_rfl) (by kernel_rfl) (fun w => by kernel_rfl) (fun w => by kernel_rfl) (l' := #[true, false, true, false, true, false, false, false, false]) (by kernel_rfl) ?_
                refine WA.any [1, 3] (by kernel_rfl) (by simp) ?_
                simp only [List.mem_cons, List.not_mem_nil, or_false, forall_eq_or_imp, forall_eq]
                refine ⟨?_, ?_⟩
                · skip
                  refine WO.op rfl (Op1.val (v := vi t942.1.Acct) (by kernel_rfl) (ev_loadBox H1054 1 rfl 3 (.tmp 168) 0 (vi t942.1.Acct) rfl (by kernel_rfl) (by kernel_rfl)) ?_)
                  refine WA.lst (l := #[true, true, true, false, true, false, false, false, false]) (by kernel_rfl) ?_
                  refine WA.take 5 (v := va (((⟨b17, 0, none⟩ : Addr).add 0).add (Int.toNat t942.1.Acct * 1))) rfl (by kernel_rfl) (by kernel_rfl) (fun w => ev_indexArr (ad := (⟨b17, 0, none⟩ : Addr).add 0) 43 (.tmp 5) (.tmp 169) 8 4 1 .i64 t942.1.Acct rfl (by kernel_rfl) (by kernel_rfl) (by kernel_rfl) hg1055) (fun w => by kernel_rfl) (l' := #[true, true, true, false, true, true, false, false, false]) (by kernel_rfl) ?_
                  refine WA.any [3, 6] (by kernel_rfl) (by simp) ?_
                  simp only [List.mem_cons, List.not_mem_nil, or_false, forall_eq_or_imp, forall_eq]
                  refine ⟨?_, ?_⟩
                  · skip
                    refine WO.op rfl (Op1.val (v := TNode.val t942.1) (by kernel_rfl) (ev_loadBox H1054 1 rfl 33 (.tmp 14) 0 (TNode.val t942.1) rfl (by kernel_rfl) (by kernel_rfl)) ?_)
                    refine WA.lst (l := #[true, true, true, true, true, true, false, false, false]) (by kernel_rfl) ?_
                    refine WA.any [6] (by kernel_rfl) (by simp) ?_
                    simp only [List.mem_singleton, forall_eq]
                    refine WO.op rfl (Op1.storeBoxI fBool H1054 3 rfl (by kernel_rfl) 4 (.tmp 172) (.const (vb false)) 0 ([c854, c855, c856, c857, c858, c859, c860, c861] : List Bool) [] [] (Int.toNat t942.1.Acct) false false rfl (by kernel_rfl) (by kernel_rfl) (by kernel_rfl) (by kernel_rfl) (by kernel_rfl) (idx_lt (n := 8) hg1055) [y1056, y1057, y1058, y1059, y1060, y1061, y1062, y1063] hy1064 #[vb y1056, vb y1057, vb y1058, vb y1059, vb y1060, vb y1061, vb y1062, vb y1063] (by kernel_rfl) (fun w1065 H1066 => ?_))
                    clear H1054
                    refine WA.lst (l := #[true, true, true, true, true, true, true, false, false]) (by kernel_rfl) ?_
                    refine WA.any [7] (by kernel_rfl) (by simp) ?_
                    simp only [List.mem_singleton, forall_eq]
                    refine WO.op rfl (Op1.storeBox H1066 3 rfl (by kernel_rfl) 33 (.tmp 11) (.tmp 171) 0 (TNode.val t942.1) (TNode.cs t942.1).toArray true rfl (by kernel_rfl) (by kernel_rfl) (by kernel_rfl) (by kernel_rfl) (by kernel_rfl) (flat_one1 fTNode t942.1) (fun w1067 H1068 => ?_))
                    clear H1066
                    refine WA.lst (l := #[true, true, true, true, true, true, true, true, false]) (by kernel_rfl) ?_
                    refine WA.take 8 (v := vb false) rfl (by kernel_rfl) (by kernel_rfl) (fun w => by kernel_rfl) (fun w => by kernel_rfl) (l' := #[true, true, true, true, true, true, true, true, true]) (by kernel_rfl) ?_
                    refine WA.done (by kernel_rfl) ?_
                    exact ⟨t942.1, y1056, y1057, y1058, y1059, y1060, y1061, y1062, y1063, (vp b946 0), (vi t942.1.Acct), s1028, (TNode.val t942.1), (va (((⟨b17, 0, none⟩ : Addr).add 0).add (Int.toNat t942.1.Acct * 1))), (by kernel_rfl), St.sel H1068 [3, 0, 1, 4, 5, 2, 6] (by decide) rfl, h⟩
                  · skip
                    refine WO.op rfl (Op1.storeBoxI fBool H1054 3 rfl (by kernel_rfl) 4 (.tmp 172) (.const (vb false)) 0 ([c854, c855, c856, c857, c858, c859, c860, c861] : List Bool) [] [] (Int.toNat t942.1.Acct) false false rfl (by kernel_rfl) (by kernel_rfl) (by kernel_rfl) (by kernel_rfl) (by kernel_rfl) (idx_lt (n := 8) hg1055) [y1056, y1057, y1058, y1059, y1060, y1061, y1062, y1063] hy1064 #[vb y1056, vb y1057, vb y1058, vb y1059, vb y1060, vb y1061, vb y1062, vb y1063] (by kernel_rfl) (fun w1069 H1070 => ?_))
                    clear H1054
                    refine WA.lst (l := #[true, true, true, false, true, true, true, false, false]) (by kernel_rfl) ?_
                    refine WA.any [3] (by kernel_rfl) (by simp) ?_
                    simp only [List.mem_singleton, forall_eq]
                    refine WO.op rfl (Op1.val (v := TNode.val t942.1) (by kernel_rfl) (ev_loadBox H1070 2 rfl 33 (.tmp 14) 0 (TNode.val t942.1) rfl (by kernel_rfl) (by kernel_rfl)) ?_)
                    refine WA.lst (l := #[true, true, true, true, true, true, true, false, false]) (by kernel_rfl) ?_
                    refine WA.any [7] (by kernel_rfl) (by simp) ?_
                    simp only [List.mem_singleton, forall_eq]
                    refine WO.op rfl (Op1.storeBox H1070 3 rfl (by kernel_rfl) 33 (.tmp 11) (.tmp 171) 0 (TNode.val t942.1) (TNode.cs t942.1).toArray true rfl (by kernel_rfl) (by kernel_rfl) (by kernel_rfl) (by kernel_rfl) (by kernel_rfl) (flat_one1 fTNode t942.1) (fun w1071 H1072 => ?_))
                    clear H1070
                    refine WA.lst (l := #[true, true, true, true, true, true, true, true, false]) (by kernel_rfl) ?_
                    refine WA.take 8 (v := vb false) rfl (by kernel_rfl) (by kernel_rfl) (fun w => by kernel_rfl) (fun w => by kernel_rfl) (l' := #[true, true, true, true, true, true, true, true, true]) (by kernel_rfl) ?_
                    refine WA.done (by kernel_rfl) ?_
                    exact ⟨t942.1, y1056, y1057, y1058, y1059, y1060, y1061, y1062, y1063, (vp b946 0), (vi t942.1.Acct), s1028, (TNode.val t942.1), (va (((⟨b17, 0, none⟩ : Addr).add 0).add (Int.toNat t942.1.Acct * 1))), (by kernel_rfl), St.sel H1072 [3, 0, 1, 4, 5, 2, 6] (by decide) rfl, h⟩
                · skip
                  refine WO.op rfl (Op1.val (v := TNode.val t942.1) (by kernel_rfl) (ev_loadBox H1054 1 rfl 33 (.tmp 14) 0 (TNode.val t942.1) rfl (by kernel_rfl) (by kernel_rfl)) ?_)
                  refine WA.lst (l := #[true, false, true, true, true, false, false, false, false]) (by kernel_rfl) ?_
                  refine WA.any [1] (by kernel_rfl) (by simp) ?_
                  simp only [List.mem_singleton, forall_eq]
                  refine WO.op rfl (Op1.val (v := vi t942.1.Acct) (by kernel_rfl) (ev_loadBox H1054 1 rfl 3 (.tmp 168) 0 (vi t942.1.Acct) rfl (by kernel_rfl) (by kernel_rfl)) ?_)
                  refine WA.lst (l := #[true, true, true, true, true, false, false, false, false]) (by kernel_rfl) ?_
                  refine WA.take 5 (v := va (((⟨b17, 0, none⟩ : Addr).add 0).add (Int.toNat t942.1.Acct * 1))) rfl (by kernel_rfl) (by kernel_rfl) (fun w => ev_indexArr (ad := (⟨b17, 0, none⟩ : Addr).add 0) 43 (.tmp 5) (.tmp 169) 8 4 1 .i64 t942.1.Acct rfl (by kernel_rfl) (by kernel_rfl) (by kernel_rfl) hg1055) (fun w => by kernel_rfl) (l' := #[true, true, true, true, true, true, false, false, false]) (by kernel_rfl) ?_
                  refine WA.any [6] (by kernel_rfl) (by simp) ?_
                  simp only [List.mem_singleton, forall_eq]
                  refine WO.op rfl (Op1.storeBoxI fBool H1054 3 rfl (by kernel_rfl) 4 (.tmp 172) (.const (vb false)) 0 ([c854, c855, c856, c857, c858, c859, c860, c861] : List Bool) [] [] (Int.toNat t942.1.Acct) false false rfl (by kernel_rfl) (by kernel_rfl) (by kernel_rfl) (by kernel_rfl) (by kernel_rfl) (idx_lt (n := 8) hg1055) [y1056, y1057, y1058, y1059, y1060, y1061, y1062, y1063] hy1064 #[vb y1056, vb y1057, vb y1058, vb y1059, vb y1060, vb y1061, vb y1062, vb y1063] (by kernel_rfl) (fun w1073 H1074 => ?_))
                  clear H1054
                  refine WA.lst (l := #[true, true, true, true, true, true, true, false, false]) (by kernel_rfl) ?_
                  refine WA.any [7] (by kernel_rfl) (by simp) ?_
                  simp only [List.mem_singleton, forall_eq]
                  refine WO.op rfl (Op1.storeBox H1074 3 rfl (by kernel_rfl) 33 (.tmp 11) (.tmp 171) 0 (TNode.val t942.1) (TNode.cs t942.1).toArray true rfl (by kernel_rfl) (by kernel_rfl) (by kernel_rfl) (by kernel_rfl) (by kernel_rfl) (flat_one1 fTNode t942.1) (fun w1075 H1076 => ?_))
                  clear H1074
                  refine WA.lst (l := #[true, true, true, true, true, true, true, true, false]) (by kernel_rfl) ?_
                  refine WA.take 8 (v := vb false) rfl (by kernel_rfl) (by kernel_rfl) (fun w => by kernel_rfl) (fun w => by kernel_rfl) (l' := #[true, true, true, true, true, true, true, true, true]) (by kernel_rfl) ?_
                  refine WA.done (by kernel_rfl) ?_
                  exact ⟨t942.1, y1056, y1057, y1058, y1059, y1060, y1061, y1062, y1063, (vp b946 0), (vi t942.1.Acct), s1028, (TNode.val t942.1), (va (((⟨b17, 0, none⟩ : Addr).add 0).add (Int.toNat t942.1.Acct * 1))), (by kernel_rfl), St.sel H1076 [3, 0, 1, 4, 5, 2, 6] (by decide) rfl, h⟩
              · intro a w hq
                refine Exists.elim hq fun x1039 hq => Exists.elim hq fun c1040 hq => Exists.elim hq fun c1041 hq => Exists.elim hq fun c1042 hq => Exists.elim hq fun c1043 hq => Exists.elim hq fun c1044 hq => Exists.elim hq fun c1045 hq => Exists.elim hq fun c1046 hq => Exists.elim hq fun c1047 hq => Exists.elim hq fun g1048 hq => Exists.elim hq fun g1049 hq => Exists.elim hq fun g1050 hq => Exists.elim hq fun g1051 hq => Exists.elim hq fun g1052 hq => ?_
                obtain ⟨rfl, H, h⟩ := hq
                subst hK1053
                obtain ⟨w1077, rfl⟩ : ∃ x, x = w := ⟨_, rfl⟩
                have H1078 := H; clear H
                have sf1079 := Own.isSl (St.get H1078 5 rfl)
                have sf1080 := Own.isSl (St.get H1078 6 rfl)
                refine inb_n (then_n ?_)
                refine WP.region ?_
                obtain ⟨x1081, hx1081, h⟩ := lt_some h
                refine WPI.run 3 ⟨#[.agg #[s1, s3], vp b5 0, g862, s1028, vp b13 0, vp b17 0, g41, g42, g43, g44, g45, vp b675 0, vb false, vi x1081, vp b946 0, vi t942.2, s1028, vi t1027.2, Z, .agg #[s1, s3], vb false, g46, g47, g48, g49, g50, g51, g52, g53, g54, g55, g56, g57, g58, g59, g60, g61, g62, g63, g64, g65, g66, g67, g68, g69, g70, g71, g72, g73, g74, g75, g76, g77, g78, g79, g80, g81, g82, g83, g84, g85, g86, g87, g88, g89, g90, g91, g92, g93, g94, g95, g96, g97, g98, g99, g100, g101, g102, g103, g104, g105, g106, g107, g108, g109, g110, g111, g112, g113, g114, g115, g116, g117, g118, g119, g120, g121, g122, g123, g124, g125, g126, g127, g128, g129, g130, .agg #[vi 0, vi 0, vu 0, vu 0, vu 0, vu 0], vi x867, vb true, vi x867, vi x1081, .tuple #[TNode.val t942.1, vi t942.2], s865, .tuple #[TNode.val t942.1, vi t942.2], TNode.val t942.1, vi t942.2, vi t942.2, vi t952, vb false, g957, g958, g959, g960, g961, g962, g963, g964, g965, g966, g967, g968, g969, g970, g971, g972, g973, g974, g975, g976, g977, g978, g979, g980, g981, g982, g983, g984, g985, g986, g987, g988, g989, g990, g991, g992, g993, g994, vb false, .tuple #[s1028, vi t1027.2], s865, vp b946 0, vi t942.1.Acct, .tuple #[s1028, vi t1027.2], s1028, vi t1027.2, vi t1027.2, vi t1034, vb false, g1048, g1049, g1050, g1051, g1052, Z, Z, Z, Z, Z, Z, Z, Z, Z, Z, Z, Z, Z], []⟩ w1077 (fun K => by subst hx1081; kernel_rfl) ?_
                refine WPI.done rfl ?_
                exact then_n ⟨n, Nat.lt_succ_self n, x1039, c1040, c1041, c1042, c1043, c1044, c1045, c1046, c1047, t1027.1, false, x1081, s1028, _, _, _, _, _, _, _, _, _, _, _, _, _, _, _, _, _, _, _, _, _, _, _, _, _, _, _, _, _, _, _, _, _, _, _, _, _, _, _, _, _, _, _, _, _, _, _, _, _, _, _, _, _, _, _, _, _, _, _, _, _, _, _, _, _, _, _, _, _, _, _, rfl, St.sel H1078 [1, 2, 3, 4, 5] (by decide) rfl, h⟩
            | true =>
              replace h := br_t h
              refine WP.condT (by kernel_rfl) ?_
              refine WP.seq ?_
              refine WP.region ?_
              refine WPI.run 1 ⟨#[.agg #[s1, s3], vp b5 0, vb false, s865, vp b13 0, vp b17 0, g41, g42, g43, g44, g45, vp b675 0, vb c866, vi x867, vp b946 0, vi t942.2, s1028, vi t1027.2, Z, .agg #[s1, s3], vb false, g46, g47, g48, g49, g50, g51, g52, g53, g54, g55, g56, g57, g58, g59, g60, g61, g62, g63, g64, g65, g66, g67, g68, g69, g70, g71, g72, g73, g74, g75, g76, g77, g78, g79, g80, g81, g82, g83, g84, g85, g86, g87, g88, g89, g90, g91, g92, g93, g94, g95, g96, g97, g98, g99, g100, g101, g102, g103, g104, g105, g106, g107, g108, g109, g110, g111, g112, g113, g114, g115, g116, g117, g118, g119, g120, g121, g122, g123, g124, g125, g126, g127, g128, g129, g130, .agg #[vi 0, vi 0, vu 0, vu 0, vu 0, vu 0], vi x867, vb true, g874, g875, .tuple #[TNode.val t942.1, vi t942.2], s865, .tuple #[TNode.val t942.1, vi t942.2], TNode.val t942.1, vi t942.2, vi t942.2, vi t952, vb false, g957, g958, g959, g960, g961, g962, g963, g964, g965, g966, g967, g968, g969, g970, g971, g972, g973, g974, g975, g976, g977, g978, g979, g980, g981, g982, g983, g984, g985, g986, g987, g988, g989, g990, g991, g992, g993, g994, vb false, .tuple #[s1028, vi t1027.2], s865, vp b946 0, vi t942.1.Acct, .tuple #[s1028, vi t1027.2], s1028, vi t1027.2, vi t1027.2, vi t1034, vb true, g933, g934, g935, g936, g937, Z, Z, Z, Z, Z, Z, Z, Z, Z, Z, Z, Z, Z], []⟩ w1035 (fun K => by kernel_rfl) ?_
              refine WPI.done rfl ?_
              refine then_n ?_
              refine WP.ret ?_
              obtain rfl := Option.some.inj h
              exact then_r (inb_r (then_r (then_r (inb_r (then_r (then_r (post_r (vb false) rfl (by kernel_rfl) ⟨rfl, St.sel H1037 [] (by decide) rfl⟩)))))))
          | true =>
            replace h := br_t h
            refine WP.condT (by kernel_rfl) ?_
            refine WP.seq ?_
            refine WP.region ?_
            refine WPI.run 1 ⟨#[.agg #[s1, s3], vp b5 0, vb false, s865, vp b13 0, vp b17 0, g41, g42, g43, g44, g45, vp b675 0, vb c866, vi x867, vp b946 0, vi t942.2, g870, g871, Z, .agg #[s1, s3], vb false, g46, g47, g48, g49, g50, g51, g52, g53, g54, g55, g56, g57, g58, g59, g60, g61, g62, g63, g64, g65, g66, g67, g68, g69, g70, g71, g72, g73, g74, g75, g76, g77, g78, g79, g80, g81, g82, g83, g84, g85, g86, g87, g88, g89, g90, g91, g92, g93, g94, g95, g96, g97, g98, g99, g100, g101, g102, g103, g104, g105, g106, g107, g108, g109, g110, g111, g112, g113, g114, g115, g116, g117, g118, g119, g120, g121, g122, g123, g124, g125, g126, g127, g128, g129, g130, .agg #[vi 0, vi 0, vu 0, vu 0, vu 0, vu 0], vi x867, vb true, g874, g875, .tuple #[TNode.val t942.1, vi t942.2], s865, .tuple #[TNode.val t942.1, vi t942.2], TNode.val t942.1, vi t942.2, vi t942.2, vi t952, vb false, g957, g958, g959, g960, g961, g962, g963, g964, g965, g966, g967, g968, g969, g970, g971, g972, g973, g974, g975, g976, g977, g978, g979, g980, g981, g982, g983, g984, g985, g986, g987, g988, g989, g990, g991, g992, g993, g994, vb true, g923, g924, g925, g926, g927, g928, g929, g930, g931, g932, g933, g934, g935, g936, g937, Z, Z, Z, Z, Z, Z, Z, Z, Z, Z, Z, Z, Z], []⟩ w1024 (fun K => by kernel_rfl) ?_
            refine WPI.done rfl ?_
            refine then_n ?_
            refine WP.ret ?_
            obtain rfl := Option.some.inj h
            exact then_r (inb_r (then_r (then_r (inb_r (then_r (then_r (post_r (vb false) rfl (by kernel_rfl) ⟨rfl, St.sel H1025 [] (by decide) rfl⟩)))))))
      | true =>
        replace h := br_t h
        refine WP.condT (by kernel_rfl) ?_
        refine WP.exit ?_
        exact then_e (inb_x (by decide) (then_e (then_e (inb_e (then_n ⟨x853, c854, c855, c856, c857, c858, c859, c860, c861, l864, s865, _, _, _, _, _, _, _, _, _, _, _, _, _, _, _, _, _, _, _, _, _, _, _, _, _, _, _, _, _, _, _, _, _, _, _, _, _, _, _, _, _, _, _, _, _, _, _, _, _, _, _, _, _, _, _, _, _, _, _, _, _, _, _, _, _, _, _, _, _, _, _, _, _, rfl, St.sel H955 [1, 2, 3, 4, 5] (by decide) rfl, h⟩)))))
end Go.Proofs
